import Derived.Test.YtngiodcdelfdmaaGreatDoorP39R9
import Derived.Test.YtngiodcdelfdmaaGreatDoorP37R9
import Derived.Test.YtngiodcdelfdmaaGreatDoorP32R9
import Derived.Test.YtngiodcdelfdmaaGreatDoorP19R9
import Derived.Test.YtngiodcdelfdmaaGreatDoorDBR9
namespace Go.Proofs.YtngiodcdelfdmaaGreatDoor
set_option linter.unusedVariables false
set_option linter.unusedSimpArgs false
set_option maxRecDepth 100000
open Go.RowKit
theorem op_addw (q i : Nat) : iOp .add .u64 (wd q i) 1 = (((q / W64 ^ i % W64 + 1) % W64 : Nat) : Int) := by
 show IntKind.u64.wrap (_ + 1) = _
 rw [wd_cast]
 have h := Nat.mod_lt (q / W64 ^ i) W64_pos
 rw [W64_val] at h ⊢
 unfold IntKind.wrap IntKind.bits IntKind.signed; simp
theorem succ_no {q : Nat} (hq : q < W128) (h : ¬ iOp .add .u64 (wd q 0) 1 = 0) : nB (wd q 1) (iOp .add .u64 (wd q 0) 1) = q + 1 := by
 rw [op_addw] at h ⊢
 rw [Nat.pow_zero, Nat.div_one] at h ⊢
 have e1 : u64 (wd q 1) = wd q 1 := u64_wd q 1
 have e2 : u64 (((q % W64 + 1) % W64 : Nat) : Int) = (((q % W64 + 1) % W64 : Nat) : Int) := u64_nat' _ (Nat.mod_lt _ W64_pos)
 unfold nB
 rw [e1, e2, wd_cast, Nat.pow_one, Int.toNat_natCast, Int.toNat_natCast]
 rw [W64_val] at *
 rw [W128_val] at hq
 omega
theorem succ_yes {q : Nat} (hq : q + 1 < W128) (h : iOp .add .u64 (wd q 0) 1 = 0) : nB (iOp .add .u64 (wd q 1) 1) (iOp .add .u64 (wd q 0) 1) = q + 1 := by
 rw [op_addw] at h ⊢
 rw [op_addw]
 rw [Nat.pow_zero, Nat.div_one] at h ⊢
 rw [Nat.pow_one] at *
 have e1 : u64 (((q / W64 % W64 + 1) % W64 : Nat) : Int) = (((q / W64 % W64 + 1) % W64 : Nat) : Int) := u64_nat' _ (Nat.mod_lt _ W64_pos)
 have e2 : u64 (((q % W64 + 1) % W64 : Nat) : Int) = (((q % W64 + 1) % W64 : Nat) : Int) := u64_nat' _ (Nat.mod_lt _ W64_pos)
 unfold nB
 rw [e1, e2, Int.toNat_natCast, Int.toNat_natCast]
 rw [W64_val] at *
 rw [W128_val] at hq
 omega
theorem bne_nk0 (n : Nat) : ((n : Int) != 0) = !decide (n = 0) := by
 cases n <;> rfl
theorem next_lt {f q : Nat} (hf : f < 4) (h : q < 2 ^ FP.fW f) (hc : clsF f q = 2) : q + 1 < W128 := by
 obtain ⟨n1, n2, n3, n4, n5, n6, n7, n8, n9⟩ := FP.fmtN hf
 have hw := pow_le128 (k := FP.fW f) (by omega)
 have hk := clsF_cod hf q
 rw [hc] at hk
 have hfin := FP.clsC_fin.1 (show FP.clsC f (FP.cod f q) < 3 by omega)
 have hl := inf_lt hf
 unfold FP.cod at hfin
 have e : 2 ^ FP.fW f = 2 * 2 ^ (FP.fW f - 1) := by rw [← Nat.pow_succ']; congr 1; omega
 have hh := FP.two_pow_pos (FP.fW f - 1)
 generalize 2 ^ (FP.fW f - 1) = H at *
 have hd := Nat.div_add_mod q H
 have hq2 : q / H < 2 := by rw [Nat.div_lt_iff_lt_mul hh]; omega
 have hm : H * (q / H) ≤ H := by
  have := Nat.mul_le_mul_left H (show q / H ≤ 1 by omega); omega
 omega
theorem true_DivBack (l : List Int) (h : l.length = 5) : F_law21_DivBack l = [1] := by
 match l, h with
 | [f, a1, a0, b1, b0], _ =>
 rw [F_law21_DivBack, t_law21_DivBack]
 by_cases ha : clsF (fN f) (nB a1 a0) = 1 ∨ clsF (fN f) (nB a1 a0) = 2
 ·by_cases hb : clsF (fN f) (nB b1 b0) = 1 ∨ clsF (fN f) (nB b1 b0) = 2
  ·have hf : fN f < 4 := by
    apply Classical.byContradiction; intro hf
    unfold clsF at ha; rw [if_neg hf] at ha; omega
   obtain ⟨q, g, k1⟩ : ∃ q g, divR (fN f) 4 false (nB a1 a0) (nB b1 b0) = (q, g) := ⟨_, _, rfl⟩
   have na : ¬ 4 ≤ clsF (fN f) (nB a1 a0) := by omega
   have nb : ¬ 4 ≤ clsF (fN f) (nB b1 b0) := by omega
   have hlt := divR_lt hf 4 false na nb
   have hfl := divR_flag (fN f) 4 false na nb
   rw [k1] at hlt hfl
   simp only at hlt hfl
   have g8 := u8_flag (k := g) (by omega)
   have cw := cut_lt hf (nB a1 a0)
   by_cases g0 : g = 0
   ·subst g0
    have k2 := div_back hf ha hb k1
    refine (treeF_call (r := [b2i (decide (clsF (fN f) (nB a1 a0) = 1 ∨ clsF (fN f) (nB a1 a0) = 2))]) (by simp only [sxs, ph_DB_law21_plain, u8_0]; exact k_law21_plain (fN_u f) (nB_u _ _)) (by rfl)).trans ?_
    refine tF (by exact nT (by simp only [sxs, u8_0]; exact decide_eq_true (ha))) ?_
    refine (treeF_call (r := [b2i (decide (clsF (fN f) (nB b1 b0) = 1 ∨ clsF (fN f) (nB b1 b0) = 2))]) (by simp only [sxs, ph_DB_law21_plain, u8_0]; exact k_law21_plain (fN_u f) (nB_u _ _)) (by rfl)).trans ?_
    refine tF (by exact nT (by simp only [sxs, u8_0]; exact decide_eq_true (hb))) ?_
    refine (treeF_call (r := [wd (q) 1, wd (q) 0, (0 : Int)]) (by simp only [sxs, ph_DB_div_Div, u8_0]; exact (k_div_Div (fN_u f) hf ((md_lit 4 (by decide)).1) ((md_lit 4 (by decide)).2) (show iNz 0 = false from rfl) (nB_u _ _) (nB_u _ _)).trans (by rw [k1]; try rfl)) (by rfl)).trans ?_
    refine (treeF_call (r := [((clsF (fN f) (q) : Nat) : Int), b2i (FP.sgn (fN f) (q))]) (by simp only [sxs, ph_DB_class_Of, u8_0]; exact k_class_Of (fN_u f) hf (nB_small (hlt))) (by rfl)).trans ?_
    refine tT (by simp only [sxs, u8_0]; simp only [beq_self_eq_true, bne_self_eq_false]) ?_
    refine (treeF_call (r := [wd (nB a1 a0 % 2 ^ FP.fW (fN f)) 1, wd (nB a1 a0 % 2 ^ FP.fW (fN f)) 0, (0 : Int)]) (by simp only [sxs, ph_DB_mul_Mul, u8_0]; exact (k_mul_Mul (fN_u f) hf ((md_lit 4 (by decide)).1) ((md_lit 4 (by decide)).2) (show iNz 0 = false from rfl) (nB_small (hlt)) (nB_u _ _)).trans (by rw [k2]; try rfl)) (by rfl)).trans ?_
    refine (treeF_call (r := [wd (nB a1 a0 % 2 ^ FP.fW (fN f)) 1, wd (nB a1 a0 % 2 ^ FP.fW (fN f)) 0]) (by simp only [sxs, ph_DB_format_Cut, u8_0]; exact k_format_Cut (fN_u f) (nB_u _ _)) (by rfl)).trans ?_
    refine tT (by simp only [sxs, u8_0]; simp only [beq_self_eq_true, Bool.and_true, Bool.and_self, bt1, bt0]) ?_
    rw [treeF_leaf rfl]; rfl
   ·by_cases c2 : clsF (fN f) q = 2
    ·by_cases g16 : g = 16
     ·subst g16
      obtain ⟨ql, ⟨e1, h1, le1, k2⟩, hnext⟩ := div_rest hf ha hb k1 c2 rfl
      have nl := next_lt hf ql c2
      have el1 : e1 < 2 ^ (FP.fW (fN f) - 1) := Nat.lt_of_le_of_lt le1 (inf_lt hf)
      have l1 : FP.mk (fN f) (FP.sgn (fN f) (nB a1 a0)) e1 < W128 := mk_W hf _ el1
      have s1 := FP.sgn_mk (f := fN f) (FP.sgn (fN f) (nB a1 a0)) el1
      generalize h1v : FP.mk (fN f) (FP.sgn (fN f) (nB a1 a0)) e1 = r1 at *
      by_cases z1 : clsF (fN f) r1 = 0
      ·skip
       by_cases car : iOp .add .u64 (wd q 0) 1 = 0
       ·have hn := succ_yes nl car
        by_cases fin : clsF (fN f) (q + 1) < 3
        ·obtain ⟨e2, h2, le2, k3⟩ := hnext fin
         have el2 : e2 < 2 ^ (FP.fW (fN f) - 1) := Nat.lt_of_le_of_lt le2 (inf_lt hf)
         have l2 : FP.mk (fN f) (!(FP.sgn (fN f) (nB a1 a0))) e2 < W128 := mk_W hf _ el2
         have s2 := FP.sgn_mk (f := fN f) (!(FP.sgn (fN f) (nB a1 a0))) el2
         generalize h2v : FP.mk (fN f) (!(FP.sgn (fN f) (nB a1 a0))) e2 = r2 at *
         by_cases z2 : clsF (fN f) r2 = 0
         ·skip
          refine (treeF_call (r := [b2i (decide (clsF (fN f) (nB a1 a0) = 1 ∨ clsF (fN f) (nB a1 a0) = 2))]) (by simp only [sxs, ph_DB_law21_plain]; exact k_law21_plain (fN_u f) (nB_u _ _)) (by rfl)).trans ?_
          refine tF (by exact nT (by simp only [sxs]; exact decide_eq_true (ha))) ?_
          refine (treeF_call (r := [b2i (decide (clsF (fN f) (nB b1 b0) = 1 ∨ clsF (fN f) (nB b1 b0) = 2))]) (by simp only [sxs, ph_DB_law21_plain]; exact k_law21_plain (fN_u f) (nB_u _ _)) (by rfl)).trans ?_
          refine tF (by exact nT (by simp only [sxs]; exact decide_eq_true (hb))) ?_
          refine (treeF_call (r := [wd (q) 1, wd (q) 0, (16 : Int)]) (by simp only [sxs, ph_DB_div_Div]; exact (k_div_Div (fN_u f) hf ((md_lit 4 (by decide)).1) ((md_lit 4 (by decide)).2) (show iNz 0 = false from rfl) (nB_u _ _) (nB_u _ _)).trans (by rw [k1]; try rfl)) (by rfl)).trans ?_
          refine (treeF_call (r := [((clsF (fN f) (q) : Nat) : Int), b2i (FP.sgn (fN f) (q))]) (by simp only [sxs, ph_DB_class_Of]; exact k_class_Of (fN_u f) hf (nB_small (hlt))) (by rfl)).trans ?_
          refine tF (by simp only [sxs]; rfl) ?_
          refine tF (by simp only [sxs]; rw [clsF_u8, c2]; rfl) ?_
          refine tF (by simp only [sxs]; rfl) ?_
          refine (treeF_call (r := [wd (turnN (fN f) (q)) 1, wd (turnN (fN f) (q)) 0]) (by simp only [sxs, ph_DB_addsub_Turn]; exact k_addsub_Turn (fN_u f) (nB_small (hlt))) (by rfl)).trans ?_
          refine (treeF_call (r := [wd (r1) 1, wd (r1) 0, ((h1 : Nat) : Int)]) (by simp only [sxs, ph_DB_fma_Fma]; exact (k_fma_Fma (fN_u f) hf ((md_lit 1 (by decide)).1) ((md_lit 1 (by decide)).2) (show iNz 0 = false from rfl) (nB_small (turn_lt _ _)) (nB_u _ _) (nB_u _ _)).trans (by rw [k2]; try rfl)) (by rfl)).trans ?_
          refine (treeF_call (r := [((clsF (fN f) (nB a1 a0) : Nat) : Int), b2i (FP.sgn (fN f) (nB a1 a0))]) (by simp only [sxs, ph_DB_class_Of]; exact k_class_Of (fN_u f) hf (nB_u _ _)) (by rfl)).trans ?_
          refine (treeF_call (r := [((clsF (fN f) (r1) : Nat) : Int), b2i (FP.sgn (fN f) (r1))]) (by simp only [sxs, ph_DB_class_Of]; exact k_class_Of (fN_u f) hf (nB_small (l1))) (by rfl)).trans ?_
          refine tF (by simp only [sxs]; rw [clsF_u8, z1]; rfl) ?_
          refine tT (by simp only [sxs]; rw [car]; rfl) ?_
          refine (treeF_call (r := [b2i (decide (clsF (fN f) (q + 1) < 3))]) (by simp only [sxs, ph_DB_class_Finite]; exact k_class_Finite (fN_u f) hf (hn)) (by rfl)).trans ?_
          refine tF (by exact nT (by simp only [sxs]; exact decide_eq_true (fin))) ?_
          refine (treeF_call (r := [wd (turnN (fN f) (q + 1)) 1, wd (turnN (fN f) (q + 1)) 0]) (by simp only [sxs, ph_DB_addsub_Turn]; exact k_addsub_Turn (fN_u f) (hn)) (by rfl)).trans ?_
          refine (treeF_call (r := [wd (r2) 1, wd (r2) 0, ((h2 : Nat) : Int)]) (by simp only [sxs, ph_DB_fma_Fma]; exact (k_fma_Fma (fN_u f) hf ((md_lit 1 (by decide)).1) ((md_lit 1 (by decide)).2) (show iNz 0 = false from rfl) (nB_small (turn_lt _ _)) (nB_u _ _) (nB_u _ _)).trans (by rw [k3]; try rfl)) (by rfl)).trans ?_
          refine (treeF_call (r := [((clsF (fN f) (r2) : Nat) : Int), b2i (FP.sgn (fN f) (r2))]) (by simp only [sxs, ph_DB_class_Of]; exact k_class_Of (fN_u f) hf (nB_small (l2))) (by rfl)).trans ?_
          refine tT (by simp only [sxs]; rw [clsF_u8, z2]; rfl) ?_
          rw [treeF_leaf rfl]; rfl
         ·skip
          refine (treeF_call (r := [b2i (decide (clsF (fN f) (nB a1 a0) = 1 ∨ clsF (fN f) (nB a1 a0) = 2))]) (by simp only [sxs, ph_DB_law21_plain]; exact k_law21_plain (fN_u f) (nB_u _ _)) (by rfl)).trans ?_
          refine tF (by exact nT (by simp only [sxs]; exact decide_eq_true (ha))) ?_
          refine (treeF_call (r := [b2i (decide (clsF (fN f) (nB b1 b0) = 1 ∨ clsF (fN f) (nB b1 b0) = 2))]) (by simp only [sxs, ph_DB_law21_plain]; exact k_law21_plain (fN_u f) (nB_u _ _)) (by rfl)).trans ?_
          refine tF (by exact nT (by simp only [sxs]; exact decide_eq_true (hb))) ?_
          refine (treeF_call (r := [wd (q) 1, wd (q) 0, (16 : Int)]) (by simp only [sxs, ph_DB_div_Div]; exact (k_div_Div (fN_u f) hf ((md_lit 4 (by decide)).1) ((md_lit 4 (by decide)).2) (show iNz 0 = false from rfl) (nB_u _ _) (nB_u _ _)).trans (by rw [k1]; try rfl)) (by rfl)).trans ?_
          refine (treeF_call (r := [((clsF (fN f) (q) : Nat) : Int), b2i (FP.sgn (fN f) (q))]) (by simp only [sxs, ph_DB_class_Of]; exact k_class_Of (fN_u f) hf (nB_small (hlt))) (by rfl)).trans ?_
          refine tF (by simp only [sxs]; rfl) ?_
          refine tF (by simp only [sxs]; rw [clsF_u8, c2]; rfl) ?_
          refine tF (by simp only [sxs]; rfl) ?_
          refine (treeF_call (r := [wd (turnN (fN f) (q)) 1, wd (turnN (fN f) (q)) 0]) (by simp only [sxs, ph_DB_addsub_Turn]; exact k_addsub_Turn (fN_u f) (nB_small (hlt))) (by rfl)).trans ?_
          refine (treeF_call (r := [wd (r1) 1, wd (r1) 0, ((h1 : Nat) : Int)]) (by simp only [sxs, ph_DB_fma_Fma]; exact (k_fma_Fma (fN_u f) hf ((md_lit 1 (by decide)).1) ((md_lit 1 (by decide)).2) (show iNz 0 = false from rfl) (nB_small (turn_lt _ _)) (nB_u _ _) (nB_u _ _)).trans (by rw [k2]; try rfl)) (by rfl)).trans ?_
          refine (treeF_call (r := [((clsF (fN f) (nB a1 a0) : Nat) : Int), b2i (FP.sgn (fN f) (nB a1 a0))]) (by simp only [sxs, ph_DB_class_Of]; exact k_class_Of (fN_u f) hf (nB_u _ _)) (by rfl)).trans ?_
          refine (treeF_call (r := [((clsF (fN f) (r1) : Nat) : Int), b2i (FP.sgn (fN f) (r1))]) (by simp only [sxs, ph_DB_class_Of]; exact k_class_Of (fN_u f) hf (nB_small (l1))) (by rfl)).trans ?_
          refine tF (by simp only [sxs]; rw [clsF_u8, z1]; rfl) ?_
          refine tT (by simp only [sxs]; rw [car]; rfl) ?_
          refine (treeF_call (r := [b2i (decide (clsF (fN f) (q + 1) < 3))]) (by simp only [sxs, ph_DB_class_Finite]; exact k_class_Finite (fN_u f) hf (hn)) (by rfl)).trans ?_
          refine tF (by exact nT (by simp only [sxs]; exact decide_eq_true (fin))) ?_
          refine (treeF_call (r := [wd (turnN (fN f) (q + 1)) 1, wd (turnN (fN f) (q + 1)) 0]) (by simp only [sxs, ph_DB_addsub_Turn]; exact k_addsub_Turn (fN_u f) (hn)) (by rfl)).trans ?_
          refine (treeF_call (r := [wd (r2) 1, wd (r2) 0, ((h2 : Nat) : Int)]) (by simp only [sxs, ph_DB_fma_Fma]; exact (k_fma_Fma (fN_u f) hf ((md_lit 1 (by decide)).1) ((md_lit 1 (by decide)).2) (show iNz 0 = false from rfl) (nB_small (turn_lt _ _)) (nB_u _ _) (nB_u _ _)).trans (by rw [k3]; try rfl)) (by rfl)).trans ?_
          refine (treeF_call (r := [((clsF (fN f) (r2) : Nat) : Int), b2i (FP.sgn (fN f) (r2))]) (by simp only [sxs, ph_DB_class_Of]; exact k_class_Of (fN_u f) hf (nB_small (l2))) (by rfl)).trans ?_
          refine tF (by simp only [sxs]; rw [clsF_u8]; exact (beq_nk0 _).trans (decide_eq_false z2)) ?_
          refine tT (by exact nF (by simp only [sxs]; rw [s2]; cases FP.sgn (fN f) (nB a1 a0) <;> rfl)) ?_
          rw [treeF_leaf rfl]; rfl
        ·skip
         refine (treeF_call (r := [b2i (decide (clsF (fN f) (nB a1 a0) = 1 ∨ clsF (fN f) (nB a1 a0) = 2))]) (by simp only [sxs, ph_DB_law21_plain]; exact k_law21_plain (fN_u f) (nB_u _ _)) (by rfl)).trans ?_
         refine tF (by exact nT (by simp only [sxs]; exact decide_eq_true (ha))) ?_
         refine (treeF_call (r := [b2i (decide (clsF (fN f) (nB b1 b0) = 1 ∨ clsF (fN f) (nB b1 b0) = 2))]) (by simp only [sxs, ph_DB_law21_plain]; exact k_law21_plain (fN_u f) (nB_u _ _)) (by rfl)).trans ?_
         refine tF (by exact nT (by simp only [sxs]; exact decide_eq_true (hb))) ?_
         refine (treeF_call (r := [wd (q) 1, wd (q) 0, (16 : Int)]) (by simp only [sxs, ph_DB_div_Div]; exact (k_div_Div (fN_u f) hf ((md_lit 4 (by decide)).1) ((md_lit 4 (by decide)).2) (show iNz 0 = false from rfl) (nB_u _ _) (nB_u _ _)).trans (by rw [k1]; try rfl)) (by rfl)).trans ?_
         refine (treeF_call (r := [((clsF (fN f) (q) : Nat) : Int), b2i (FP.sgn (fN f) (q))]) (by simp only [sxs, ph_DB_class_Of]; exact k_class_Of (fN_u f) hf (nB_small (hlt))) (by rfl)).trans ?_
         refine tF (by simp only [sxs]; rfl) ?_
         refine tF (by simp only [sxs]; rw [clsF_u8, c2]; rfl) ?_
         refine tF (by simp only [sxs]; rfl) ?_
         refine (treeF_call (r := [wd (turnN (fN f) (q)) 1, wd (turnN (fN f) (q)) 0]) (by simp only [sxs, ph_DB_addsub_Turn]; exact k_addsub_Turn (fN_u f) (nB_small (hlt))) (by rfl)).trans ?_
         refine (treeF_call (r := [wd (r1) 1, wd (r1) 0, ((h1 : Nat) : Int)]) (by simp only [sxs, ph_DB_fma_Fma]; exact (k_fma_Fma (fN_u f) hf ((md_lit 1 (by decide)).1) ((md_lit 1 (by decide)).2) (show iNz 0 = false from rfl) (nB_small (turn_lt _ _)) (nB_u _ _) (nB_u _ _)).trans (by rw [k2]; try rfl)) (by rfl)).trans ?_
         refine (treeF_call (r := [((clsF (fN f) (nB a1 a0) : Nat) : Int), b2i (FP.sgn (fN f) (nB a1 a0))]) (by simp only [sxs, ph_DB_class_Of]; exact k_class_Of (fN_u f) hf (nB_u _ _)) (by rfl)).trans ?_
         refine (treeF_call (r := [((clsF (fN f) (r1) : Nat) : Int), b2i (FP.sgn (fN f) (r1))]) (by simp only [sxs, ph_DB_class_Of]; exact k_class_Of (fN_u f) hf (nB_small (l1))) (by rfl)).trans ?_
         refine tF (by simp only [sxs]; rw [clsF_u8, z1]; rfl) ?_
         refine tT (by simp only [sxs]; rw [car]; rfl) ?_
         refine (treeF_call (r := [b2i (decide (clsF (fN f) (q + 1) < 3))]) (by simp only [sxs, ph_DB_class_Finite]; exact k_class_Finite (fN_u f) hf (hn)) (by rfl)).trans ?_
         refine tT (by exact nF (by simp only [sxs]; exact decide_eq_false (fin))) ?_
         rw [treeF_leaf rfl]; rfl
       ·have hn := succ_no hlt car
        by_cases fin : clsF (fN f) (q + 1) < 3
        ·obtain ⟨e2, h2, le2, k3⟩ := hnext fin
         have el2 : e2 < 2 ^ (FP.fW (fN f) - 1) := Nat.lt_of_le_of_lt le2 (inf_lt hf)
         have l2 : FP.mk (fN f) (!(FP.sgn (fN f) (nB a1 a0))) e2 < W128 := mk_W hf _ el2
         have s2 := FP.sgn_mk (f := fN f) (!(FP.sgn (fN f) (nB a1 a0))) el2
         generalize h2v : FP.mk (fN f) (!(FP.sgn (fN f) (nB a1 a0))) e2 = r2 at *
         by_cases z2 : clsF (fN f) r2 = 0
         ·skip
          refine (treeF_call (r := [b2i (decide (clsF (fN f) (nB a1 a0) = 1 ∨ clsF (fN f) (nB a1 a0) = 2))]) (by simp only [sxs, ph_DB_law21_plain]; exact k_law21_plain (fN_u f) (nB_u _ _)) (by rfl)).trans ?_
          refine tF (by exact nT (by simp only [sxs]; exact decide_eq_true (ha))) ?_
          refine (treeF_call (r := [b2i (decide (clsF (fN f) (nB b1 b0) = 1 ∨ clsF (fN f) (nB b1 b0) = 2))]) (by simp only [sxs, ph_DB_law21_plain]; exact k_law21_plain (fN_u f) (nB_u _ _)) (by rfl)).trans ?_
          refine tF (by exact nT (by simp only [sxs]; exact decide_eq_true (hb))) ?_
          refine (treeF_call (r := [wd (q) 1, wd (q) 0, (16 : Int)]) (by simp only [sxs, ph_DB_div_Div]; exact (k_div_Div (fN_u f) hf ((md_lit 4 (by decide)).1) ((md_lit 4 (by decide)).2) (show iNz 0 = false from rfl) (nB_u _ _) (nB_u _ _)).trans (by rw [k1]; try rfl)) (by rfl)).trans ?_
          refine (treeF_call (r := [((clsF (fN f) (q) : Nat) : Int), b2i (FP.sgn (fN f) (q))]) (by simp only [sxs, ph_DB_class_Of]; exact k_class_Of (fN_u f) hf (nB_small (hlt))) (by rfl)).trans ?_
          refine tF (by simp only [sxs]; rfl) ?_
          refine tF (by simp only [sxs]; rw [clsF_u8, c2]; rfl) ?_
          refine tF (by simp only [sxs]; rfl) ?_
          refine (treeF_call (r := [wd (turnN (fN f) (q)) 1, wd (turnN (fN f) (q)) 0]) (by simp only [sxs, ph_DB_addsub_Turn]; exact k_addsub_Turn (fN_u f) (nB_small (hlt))) (by rfl)).trans ?_
          refine (treeF_call (r := [wd (r1) 1, wd (r1) 0, ((h1 : Nat) : Int)]) (by simp only [sxs, ph_DB_fma_Fma]; exact (k_fma_Fma (fN_u f) hf ((md_lit 1 (by decide)).1) ((md_lit 1 (by decide)).2) (show iNz 0 = false from rfl) (nB_small (turn_lt _ _)) (nB_u _ _) (nB_u _ _)).trans (by rw [k2]; try rfl)) (by rfl)).trans ?_
          refine (treeF_call (r := [((clsF (fN f) (nB a1 a0) : Nat) : Int), b2i (FP.sgn (fN f) (nB a1 a0))]) (by simp only [sxs, ph_DB_class_Of]; exact k_class_Of (fN_u f) hf (nB_u _ _)) (by rfl)).trans ?_
          refine (treeF_call (r := [((clsF (fN f) (r1) : Nat) : Int), b2i (FP.sgn (fN f) (r1))]) (by simp only [sxs, ph_DB_class_Of]; exact k_class_Of (fN_u f) hf (nB_small (l1))) (by rfl)).trans ?_
          refine tF (by simp only [sxs]; rw [clsF_u8, z1]; rfl) ?_
          refine tF (by simp only [sxs]; exact beq_eq_false_iff_ne.2 car) ?_
          refine (treeF_call (r := [b2i (decide (clsF (fN f) (q + 1) < 3))]) (by simp only [sxs, ph_DB_class_Finite]; exact k_class_Finite (fN_u f) hf (hn)) (by rfl)).trans ?_
          refine tF (by exact nT (by simp only [sxs]; exact decide_eq_true (fin))) ?_
          refine (treeF_call (r := [wd (turnN (fN f) (q + 1)) 1, wd (turnN (fN f) (q + 1)) 0]) (by simp only [sxs, ph_DB_addsub_Turn]; exact k_addsub_Turn (fN_u f) (hn)) (by rfl)).trans ?_
          refine (treeF_call (r := [wd (r2) 1, wd (r2) 0, ((h2 : Nat) : Int)]) (by simp only [sxs, ph_DB_fma_Fma]; exact (k_fma_Fma (fN_u f) hf ((md_lit 1 (by decide)).1) ((md_lit 1 (by decide)).2) (show iNz 0 = false from rfl) (nB_small (turn_lt _ _)) (nB_u _ _) (nB_u _ _)).trans (by rw [k3]; try rfl)) (by rfl)).trans ?_
          refine (treeF_call (r := [((clsF (fN f) (r2) : Nat) : Int), b2i (FP.sgn (fN f) (r2))]) (by simp only [sxs, ph_DB_class_Of]; exact k_class_Of (fN_u f) hf (nB_small (l2))) (by rfl)).trans ?_
          refine tT (by simp only [sxs]; rw [clsF_u8, z2]; rfl) ?_
          rw [treeF_leaf rfl]; rfl
         ·skip
          refine (treeF_call (r := [b2i (decide (clsF (fN f) (nB a1 a0) = 1 ∨ clsF (fN f) (nB a1 a0) = 2))]) (by simp only [sxs, ph_DB_law21_plain]; exact k_law21_plain (fN_u f) (nB_u _ _)) (by rfl)).trans ?_
          refine tF (by exact nT (by simp only [sxs]; exact decide_eq_true (ha))) ?_
          refine (treeF_call (r := [b2i (decide (clsF (fN f) (nB b1 b0) = 1 ∨ clsF (fN f) (nB b1 b0) = 2))]) (by simp only [sxs, ph_DB_law21_plain]; exact k_law21_plain (fN_u f) (nB_u _ _)) (by rfl)).trans ?_
          refine tF (by exact nT (by simp only [sxs]; exact decide_eq_true (hb))) ?_
          refine (treeF_call (r := [wd (q) 1, wd (q) 0, (16 : Int)]) (by simp only [sxs, ph_DB_div_Div]; exact (k_div_Div (fN_u f) hf ((md_lit 4 (by decide)).1) ((md_lit 4 (by decide)).2) (show iNz 0 = false from rfl) (nB_u _ _) (nB_u _ _)).trans (by rw [k1]; try rfl)) (by rfl)).trans ?_
          refine (treeF_call (r := [((clsF (fN f) (q) : Nat) : Int), b2i (FP.sgn (fN f) (q))]) (by simp only [sxs, ph_DB_class_Of]; exact k_class_Of (fN_u f) hf (nB_small (hlt))) (by rfl)).trans ?_
          refine tF (by simp only [sxs]; rfl) ?_
          refine tF (by simp only [sxs]; rw [clsF_u8, c2]; rfl) ?_
          refine tF (by simp only [sxs]; rfl) ?_
          refine (treeF_call (r := [wd (turnN (fN f) (q)) 1, wd (turnN (fN f) (q)) 0]) (by simp only [sxs, ph_DB_addsub_Turn]; exact k_addsub_Turn (fN_u f) (nB_small (hlt))) (by rfl)).trans ?_
          refine (treeF_call (r := [wd (r1) 1, wd (r1) 0, ((h1 : Nat) : Int)]) (by simp only [sxs, ph_DB_fma_Fma]; exact (k_fma_Fma (fN_u f) hf ((md_lit 1 (by decide)).1) ((md_lit 1 (by decide)).2) (show iNz 0 = false from rfl) (nB_small (turn_lt _ _)) (nB_u _ _) (nB_u _ _)).trans (by rw [k2]; try rfl)) (by rfl)).trans ?_
          refine (treeF_call (r := [((clsF (fN f) (nB a1 a0) : Nat) : Int), b2i (FP.sgn (fN f) (nB a1 a0))]) (by simp only [sxs, ph_DB_class_Of]; exact k_class_Of (fN_u f) hf (nB_u _ _)) (by rfl)).trans ?_
          refine (treeF_call (r := [((clsF (fN f) (r1) : Nat) : Int), b2i (FP.sgn (fN f) (r1))]) (by simp only [sxs, ph_DB_class_Of]; exact k_class_Of (fN_u f) hf (nB_small (l1))) (by rfl)).trans ?_
          refine tF (by simp only [sxs]; rw [clsF_u8, z1]; rfl) ?_
          refine tF (by simp only [sxs]; exact beq_eq_false_iff_ne.2 car) ?_
          refine (treeF_call (r := [b2i (decide (clsF (fN f) (q + 1) < 3))]) (by simp only [sxs, ph_DB_class_Finite]; exact k_class_Finite (fN_u f) hf (hn)) (by rfl)).trans ?_
          refine tF (by exact nT (by simp only [sxs]; exact decide_eq_true (fin))) ?_
          refine (treeF_call (r := [wd (turnN (fN f) (q + 1)) 1, wd (turnN (fN f) (q + 1)) 0]) (by simp only [sxs, ph_DB_addsub_Turn]; exact k_addsub_Turn (fN_u f) (hn)) (by rfl)).trans ?_
          refine (treeF_call (r := [wd (r2) 1, wd (r2) 0, ((h2 : Nat) : Int)]) (by simp only [sxs, ph_DB_fma_Fma]; exact (k_fma_Fma (fN_u f) hf ((md_lit 1 (by decide)).1) ((md_lit 1 (by decide)).2) (show iNz 0 = false from rfl) (nB_small (turn_lt _ _)) (nB_u _ _) (nB_u _ _)).trans (by rw [k3]; try rfl)) (by rfl)).trans ?_
          refine (treeF_call (r := [((clsF (fN f) (r2) : Nat) : Int), b2i (FP.sgn (fN f) (r2))]) (by simp only [sxs, ph_DB_class_Of]; exact k_class_Of (fN_u f) hf (nB_small (l2))) (by rfl)).trans ?_
          refine tF (by simp only [sxs]; rw [clsF_u8]; exact (beq_nk0 _).trans (decide_eq_false z2)) ?_
          refine tT (by exact nF (by simp only [sxs]; rw [s2]; cases FP.sgn (fN f) (nB a1 a0) <;> rfl)) ?_
          rw [treeF_leaf rfl]; rfl
        ·skip
         refine (treeF_call (r := [b2i (decide (clsF (fN f) (nB a1 a0) = 1 ∨ clsF (fN f) (nB a1 a0) = 2))]) (by simp only [sxs, ph_DB_law21_plain]; exact k_law21_plain (fN_u f) (nB_u _ _)) (by rfl)).trans ?_
         refine tF (by exact nT (by simp only [sxs]; exact decide_eq_true (ha))) ?_
         refine (treeF_call (r := [b2i (decide (clsF (fN f) (nB b1 b0) = 1 ∨ clsF (fN f) (nB b1 b0) = 2))]) (by simp only [sxs, ph_DB_law21_plain]; exact k_law21_plain (fN_u f) (nB_u _ _)) (by rfl)).trans ?_
         refine tF (by exact nT (by simp only [sxs]; exact decide_eq_true (hb))) ?_
         refine (treeF_call (r := [wd (q) 1, wd (q) 0, (16 : Int)]) (by simp only [sxs, ph_DB_div_Div]; exact (k_div_Div (fN_u f) hf ((md_lit 4 (by decide)).1) ((md_lit 4 (by decide)).2) (show iNz 0 = false from rfl) (nB_u _ _) (nB_u _ _)).trans (by rw [k1]; try rfl)) (by rfl)).trans ?_
         refine (treeF_call (r := [((clsF (fN f) (q) : Nat) : Int), b2i (FP.sgn (fN f) (q))]) (by simp only [sxs, ph_DB_class_Of]; exact k_class_Of (fN_u f) hf (nB_small (hlt))) (by rfl)).trans ?_
         refine tF (by simp only [sxs]; rfl) ?_
         refine tF (by simp only [sxs]; rw [clsF_u8, c2]; rfl) ?_
         refine tF (by simp only [sxs]; rfl) ?_
         refine (treeF_call (r := [wd (turnN (fN f) (q)) 1, wd (turnN (fN f) (q)) 0]) (by simp only [sxs, ph_DB_addsub_Turn]; exact k_addsub_Turn (fN_u f) (nB_small (hlt))) (by rfl)).trans ?_
         refine (treeF_call (r := [wd (r1) 1, wd (r1) 0, ((h1 : Nat) : Int)]) (by simp only [sxs, ph_DB_fma_Fma]; exact (k_fma_Fma (fN_u f) hf ((md_lit 1 (by decide)).1) ((md_lit 1 (by decide)).2) (show iNz 0 = false from rfl) (nB_small (turn_lt _ _)) (nB_u _ _) (nB_u _ _)).trans (by rw [k2]; try rfl)) (by rfl)).trans ?_
         refine (treeF_call (r := [((clsF (fN f) (nB a1 a0) : Nat) : Int), b2i (FP.sgn (fN f) (nB a1 a0))]) (by simp only [sxs, ph_DB_class_Of]; exact k_class_Of (fN_u f) hf (nB_u _ _)) (by rfl)).trans ?_
         refine (treeF_call (r := [((clsF (fN f) (r1) : Nat) : Int), b2i (FP.sgn (fN f) (r1))]) (by simp only [sxs, ph_DB_class_Of]; exact k_class_Of (fN_u f) hf (nB_small (l1))) (by rfl)).trans ?_
         refine tF (by simp only [sxs]; rw [clsF_u8, z1]; rfl) ?_
         refine tF (by simp only [sxs]; exact beq_eq_false_iff_ne.2 car) ?_
         refine (treeF_call (r := [b2i (decide (clsF (fN f) (q + 1) < 3))]) (by simp only [sxs, ph_DB_class_Finite]; exact k_class_Finite (fN_u f) hf (hn)) (by rfl)).trans ?_
         refine tT (by exact nF (by simp only [sxs]; exact decide_eq_false (fin))) ?_
         rw [treeF_leaf rfl]; rfl
      ·skip
       by_cases car : iOp .add .u64 (wd q 0) 1 = 0
       ·have hn := succ_yes nl car
        by_cases fin : clsF (fN f) (q + 1) < 3
        ·obtain ⟨e2, h2, le2, k3⟩ := hnext fin
         have el2 : e2 < 2 ^ (FP.fW (fN f) - 1) := Nat.lt_of_le_of_lt le2 (inf_lt hf)
         have l2 : FP.mk (fN f) (!(FP.sgn (fN f) (nB a1 a0))) e2 < W128 := mk_W hf _ el2
         have s2 := FP.sgn_mk (f := fN f) (!(FP.sgn (fN f) (nB a1 a0))) el2
         generalize h2v : FP.mk (fN f) (!(FP.sgn (fN f) (nB a1 a0))) e2 = r2 at *
         by_cases z2 : clsF (fN f) r2 = 0
         ·skip
          refine (treeF_call (r := [b2i (decide (clsF (fN f) (nB a1 a0) = 1 ∨ clsF (fN f) (nB a1 a0) = 2))]) (by simp only [sxs, ph_DB_law21_plain]; exact k_law21_plain (fN_u f) (nB_u _ _)) (by rfl)).trans ?_
          refine tF (by exact nT (by simp only [sxs]; exact decide_eq_true (ha))) ?_
          refine (treeF_call (r := [b2i (decide (clsF (fN f) (nB b1 b0) = 1 ∨ clsF (fN f) (nB b1 b0) = 2))]) (by simp only [sxs, ph_DB_law21_plain]; exact k_law21_plain (fN_u f) (nB_u _ _)) (by rfl)).trans ?_
          refine tF (by exact nT (by simp only [sxs]; exact decide_eq_true (hb))) ?_
          refine (treeF_call (r := [wd (q) 1, wd (q) 0, (16 : Int)]) (by simp only [sxs, ph_DB_div_Div]; exact (k_div_Div (fN_u f) hf ((md_lit 4 (by decide)).1) ((md_lit 4 (by decide)).2) (show iNz 0 = false from rfl) (nB_u _ _) (nB_u _ _)).trans (by rw [k1]; try rfl)) (by rfl)).trans ?_
          refine (treeF_call (r := [((clsF (fN f) (q) : Nat) : Int), b2i (FP.sgn (fN f) (q))]) (by simp only [sxs, ph_DB_class_Of]; exact k_class_Of (fN_u f) hf (nB_small (hlt))) (by rfl)).trans ?_
          refine tF (by simp only [sxs]; rfl) ?_
          refine tF (by simp only [sxs]; rw [clsF_u8, c2]; rfl) ?_
          refine tF (by simp only [sxs]; rfl) ?_
          refine (treeF_call (r := [wd (turnN (fN f) (q)) 1, wd (turnN (fN f) (q)) 0]) (by simp only [sxs, ph_DB_addsub_Turn]; exact k_addsub_Turn (fN_u f) (nB_small (hlt))) (by rfl)).trans ?_
          refine (treeF_call (r := [wd (r1) 1, wd (r1) 0, ((h1 : Nat) : Int)]) (by simp only [sxs, ph_DB_fma_Fma]; exact (k_fma_Fma (fN_u f) hf ((md_lit 1 (by decide)).1) ((md_lit 1 (by decide)).2) (show iNz 0 = false from rfl) (nB_small (turn_lt _ _)) (nB_u _ _) (nB_u _ _)).trans (by rw [k2]; try rfl)) (by rfl)).trans ?_
          refine (treeF_call (r := [((clsF (fN f) (nB a1 a0) : Nat) : Int), b2i (FP.sgn (fN f) (nB a1 a0))]) (by simp only [sxs, ph_DB_class_Of]; exact k_class_Of (fN_u f) hf (nB_u _ _)) (by rfl)).trans ?_
          refine (treeF_call (r := [((clsF (fN f) (r1) : Nat) : Int), b2i (FP.sgn (fN f) (r1))]) (by simp only [sxs, ph_DB_class_Of]; exact k_class_Of (fN_u f) hf (nB_small (l1))) (by rfl)).trans ?_
          refine tT (by simp only [sxs]; rw [clsF_u8]; exact (bne_nk0 _).trans (by rw [decide_eq_false z1]; rfl)) ?_
          refine tF (by exact nT (by simp only [sxs]; rw [s1]; cases FP.sgn (fN f) (nB a1 a0) <;> rfl)) ?_
          refine tT (by simp only [sxs]; rw [car]; rfl) ?_
          refine (treeF_call (r := [b2i (decide (clsF (fN f) (q + 1) < 3))]) (by simp only [sxs, ph_DB_class_Finite]; exact k_class_Finite (fN_u f) hf (hn)) (by rfl)).trans ?_
          refine tF (by exact nT (by simp only [sxs]; exact decide_eq_true (fin))) ?_
          refine (treeF_call (r := [wd (turnN (fN f) (q + 1)) 1, wd (turnN (fN f) (q + 1)) 0]) (by simp only [sxs, ph_DB_addsub_Turn]; exact k_addsub_Turn (fN_u f) (hn)) (by rfl)).trans ?_
          refine (treeF_call (r := [wd (r2) 1, wd (r2) 0, ((h2 : Nat) : Int)]) (by simp only [sxs, ph_DB_fma_Fma]; exact (k_fma_Fma (fN_u f) hf ((md_lit 1 (by decide)).1) ((md_lit 1 (by decide)).2) (show iNz 0 = false from rfl) (nB_small (turn_lt _ _)) (nB_u _ _) (nB_u _ _)).trans (by rw [k3]; try rfl)) (by rfl)).trans ?_
          refine (treeF_call (r := [((clsF (fN f) (r2) : Nat) : Int), b2i (FP.sgn (fN f) (r2))]) (by simp only [sxs, ph_DB_class_Of]; exact k_class_Of (fN_u f) hf (nB_small (l2))) (by rfl)).trans ?_
          refine tT (by simp only [sxs]; rw [clsF_u8, z2]; rfl) ?_
          rw [treeF_leaf rfl]; rfl
         ·skip
          refine (treeF_call (r := [b2i (decide (clsF (fN f) (nB a1 a0) = 1 ∨ clsF (fN f) (nB a1 a0) = 2))]) (by simp only [sxs, ph_DB_law21_plain]; exact k_law21_plain (fN_u f) (nB_u _ _)) (by rfl)).trans ?_
          refine tF (by exact nT (by simp only [sxs]; exact decide_eq_true (ha))) ?_
          refine (treeF_call (r := [b2i (decide (clsF (fN f) (nB b1 b0) = 1 ∨ clsF (fN f) (nB b1 b0) = 2))]) (by simp only [sxs, ph_DB_law21_plain]; exact k_law21_plain (fN_u f) (nB_u _ _)) (by rfl)).trans ?_
          refine tF (by exact nT (by simp only [sxs]; exact decide_eq_true (hb))) ?_
          refine (treeF_call (r := [wd (q) 1, wd (q) 0, (16 : Int)]) (by simp only [sxs, ph_DB_div_Div]; exact (k_div_Div (fN_u f) hf ((md_lit 4 (by decide)).1) ((md_lit 4 (by decide)).2) (show iNz 0 = false from rfl) (nB_u _ _) (nB_u _ _)).trans (by rw [k1]; try rfl)) (by rfl)).trans ?_
          refine (treeF_call (r := [((clsF (fN f) (q) : Nat) : Int), b2i (FP.sgn (fN f) (q))]) (by simp only [sxs, ph_DB_class_Of]; exact k_class_Of (fN_u f) hf (nB_small (hlt))) (by rfl)).trans ?_
          refine tF (by simp only [sxs]; rfl) ?_
          refine tF (by simp only [sxs]; rw [clsF_u8, c2]; rfl) ?_
          refine tF (by simp only [sxs]; rfl) ?_
          refine (treeF_call (r := [wd (turnN (fN f) (q)) 1, wd (turnN (fN f) (q)) 0]) (by simp only [sxs, ph_DB_addsub_Turn]; exact k_addsub_Turn (fN_u f) (nB_small (hlt))) (by rfl)).trans ?_
          refine (treeF_call (r := [wd (r1) 1, wd (r1) 0, ((h1 : Nat) : Int)]) (by simp only [sxs, ph_DB_fma_Fma]; exact (k_fma_Fma (fN_u f) hf ((md_lit 1 (by decide)).1) ((md_lit 1 (by decide)).2) (show iNz 0 = false from rfl) (nB_small (turn_lt _ _)) (nB_u _ _) (nB_u _ _)).trans (by rw [k2]; try rfl)) (by rfl)).trans ?_
          refine (treeF_call (r := [((clsF (fN f) (nB a1 a0) : Nat) : Int), b2i (FP.sgn (fN f) (nB a1 a0))]) (by simp only [sxs, ph_DB_class_Of]; exact k_class_Of (fN_u f) hf (nB_u _ _)) (by rfl)).trans ?_
          refine (treeF_call (r := [((clsF (fN f) (r1) : Nat) : Int), b2i (FP.sgn (fN f) (r1))]) (by simp only [sxs, ph_DB_class_Of]; exact k_class_Of (fN_u f) hf (nB_small (l1))) (by rfl)).trans ?_
          refine tT (by simp only [sxs]; rw [clsF_u8]; exact (bne_nk0 _).trans (by rw [decide_eq_false z1]; rfl)) ?_
          refine tF (by exact nT (by simp only [sxs]; rw [s1]; cases FP.sgn (fN f) (nB a1 a0) <;> rfl)) ?_
          refine tT (by simp only [sxs]; rw [car]; rfl) ?_
          refine (treeF_call (r := [b2i (decide (clsF (fN f) (q + 1) < 3))]) (by simp only [sxs, ph_DB_class_Finite]; exact k_class_Finite (fN_u f) hf (hn)) (by rfl)).trans ?_
          refine tF (by exact nT (by simp only [sxs]; exact decide_eq_true (fin))) ?_
          refine (treeF_call (r := [wd (turnN (fN f) (q + 1)) 1, wd (turnN (fN f) (q + 1)) 0]) (by simp only [sxs, ph_DB_addsub_Turn]; exact k_addsub_Turn (fN_u f) (hn)) (by rfl)).trans ?_
          refine (treeF_call (r := [wd (r2) 1, wd (r2) 0, ((h2 : Nat) : Int)]) (by simp only [sxs, ph_DB_fma_Fma]; exact (k_fma_Fma (fN_u f) hf ((md_lit 1 (by decide)).1) ((md_lit 1 (by decide)).2) (show iNz 0 = false from rfl) (nB_small (turn_lt _ _)) (nB_u _ _) (nB_u _ _)).trans (by rw [k3]; try rfl)) (by rfl)).trans ?_
          refine (treeF_call (r := [((clsF (fN f) (r2) : Nat) : Int), b2i (FP.sgn (fN f) (r2))]) (by simp only [sxs, ph_DB_class_Of]; exact k_class_Of (fN_u f) hf (nB_small (l2))) (by rfl)).trans ?_
          refine tF (by simp only [sxs]; rw [clsF_u8]; exact (beq_nk0 _).trans (decide_eq_false z2)) ?_
          refine tT (by exact nF (by simp only [sxs]; rw [s2]; cases FP.sgn (fN f) (nB a1 a0) <;> rfl)) ?_
          rw [treeF_leaf rfl]; rfl
        ·skip
         refine (treeF_call (r := [b2i (decide (clsF (fN f) (nB a1 a0) = 1 ∨ clsF (fN f) (nB a1 a0) = 2))]) (by simp only [sxs, ph_DB_law21_plain]; exact k_law21_plain (fN_u f) (nB_u _ _)) (by rfl)).trans ?_
         refine tF (by exact nT (by simp only [sxs]; exact decide_eq_true (ha))) ?_
         refine (treeF_call (r := [b2i (decide (clsF (fN f) (nB b1 b0) = 1 ∨ clsF (fN f) (nB b1 b0) = 2))]) (by simp only [sxs, ph_DB_law21_plain]; exact k_law21_plain (fN_u f) (nB_u _ _)) (by rfl)).trans ?_
         refine tF (by exact nT (by simp only [sxs]; exact decide_eq_true (hb))) ?_
         refine (treeF_call (r := [wd (q) 1, wd (q) 0, (16 : Int)]) (by simp only [sxs, ph_DB_div_Div]; exact (k_div_Div (fN_u f) hf ((md_lit 4 (by decide)).1) ((md_lit 4 (by decide)).2) (show iNz 0 = false from rfl) (nB_u _ _) (nB_u _ _)).trans (by rw [k1]; try rfl)) (by rfl)).trans ?_
         refine (treeF_call (r := [((clsF (fN f) (q) : Nat) : Int), b2i (FP.sgn (fN f) (q))]) (by simp only [sxs, ph_DB_class_Of]; exact k_class_Of (fN_u f) hf (nB_small (hlt))) (by rfl)).trans ?_
         refine tF (by simp only [sxs]; rfl) ?_
         refine tF (by simp only [sxs]; rw [clsF_u8, c2]; rfl) ?_
         refine tF (by simp only [sxs]; rfl) ?_
         refine (treeF_call (r := [wd (turnN (fN f) (q)) 1, wd (turnN (fN f) (q)) 0]) (by simp only [sxs, ph_DB_addsub_Turn]; exact k_addsub_Turn (fN_u f) (nB_small (hlt))) (by rfl)).trans ?_
         refine (treeF_call (r := [wd (r1) 1, wd (r1) 0, ((h1 : Nat) : Int)]) (by simp only [sxs, ph_DB_fma_Fma]; exact (k_fma_Fma (fN_u f) hf ((md_lit 1 (by decide)).1) ((md_lit 1 (by decide)).2) (show iNz 0 = false from rfl) (nB_small (turn_lt _ _)) (nB_u _ _) (nB_u _ _)).trans (by rw [k2]; try rfl)) (by rfl)).trans ?_
         refine (treeF_call (r := [((clsF (fN f) (nB a1 a0) : Nat) : Int), b2i (FP.sgn (fN f) (nB a1 a0))]) (by simp only [sxs, ph_DB_class_Of]; exact k_class_Of (fN_u f) hf (nB_u _ _)) (by rfl)).trans ?_
         refine (treeF_call (r := [((clsF (fN f) (r1) : Nat) : Int), b2i (FP.sgn (fN f) (r1))]) (by simp only [sxs, ph_DB_class_Of]; exact k_class_Of (fN_u f) hf (nB_small (l1))) (by rfl)).trans ?_
         refine tT (by simp only [sxs]; rw [clsF_u8]; exact (bne_nk0 _).trans (by rw [decide_eq_false z1]; rfl)) ?_
         refine tF (by exact nT (by simp only [sxs]; rw [s1]; cases FP.sgn (fN f) (nB a1 a0) <;> rfl)) ?_
         refine tT (by simp only [sxs]; rw [car]; rfl) ?_
         refine (treeF_call (r := [b2i (decide (clsF (fN f) (q + 1) < 3))]) (by simp only [sxs, ph_DB_class_Finite]; exact k_class_Finite (fN_u f) hf (hn)) (by rfl)).trans ?_
         refine tT (by exact nF (by simp only [sxs]; exact decide_eq_false (fin))) ?_
         rw [treeF_leaf rfl]; rfl
       ·have hn := succ_no hlt car
        by_cases fin : clsF (fN f) (q + 1) < 3
        ·obtain ⟨e2, h2, le2, k3⟩ := hnext fin
         have el2 : e2 < 2 ^ (FP.fW (fN f) - 1) := Nat.lt_of_le_of_lt le2 (inf_lt hf)
         have l2 : FP.mk (fN f) (!(FP.sgn (fN f) (nB a1 a0))) e2 < W128 := mk_W hf _ el2
         have s2 := FP.sgn_mk (f := fN f) (!(FP.sgn (fN f) (nB a1 a0))) el2
         generalize h2v : FP.mk (fN f) (!(FP.sgn (fN f) (nB a1 a0))) e2 = r2 at *
         by_cases z2 : clsF (fN f) r2 = 0
         ·skip
          refine (treeF_call (r := [b2i (decide (clsF (fN f) (nB a1 a0) = 1 ∨ clsF (fN f) (nB a1 a0) = 2))]) (by simp only [sxs, ph_DB_law21_plain]; exact k_law21_plain (fN_u f) (nB_u _ _)) (by rfl)).trans ?_
          refine tF (by exact nT (by simp only [sxs]; exact decide_eq_true (ha))) ?_
          refine (treeF_call (r := [b2i (decide (clsF (fN f) (nB b1 b0) = 1 ∨ clsF (fN f) (nB b1 b0) = 2))]) (by simp only [sxs, ph_DB_law21_plain]; exact k_law21_plain (fN_u f) (nB_u _ _)) (by rfl)).trans ?_
          refine tF (by exact nT (by simp only [sxs]; exact decide_eq_true (hb))) ?_
          refine (treeF_call (r := [wd (q) 1, wd (q) 0, (16 : Int)]) (by simp only [sxs, ph_DB_div_Div]; exact (k_div_Div (fN_u f) hf ((md_lit 4 (by decide)).1) ((md_lit 4 (by decide)).2) (show iNz 0 = false from rfl) (nB_u _ _) (nB_u _ _)).trans (by rw [k1]; try rfl)) (by rfl)).trans ?_
          refine (treeF_call (r := [((clsF (fN f) (q) : Nat) : Int), b2i (FP.sgn (fN f) (q))]) (by simp only [sxs, ph_DB_class_Of]; exact k_class_Of (fN_u f) hf (nB_small (hlt))) (by rfl)).trans ?_
          refine tF (by simp only [sxs]; rfl) ?_
          refine tF (by simp only [sxs]; rw [clsF_u8, c2]; rfl) ?_
          refine tF (by simp only [sxs]; rfl) ?_
          refine (treeF_call (r := [wd (turnN (fN f) (q)) 1, wd (turnN (fN f) (q)) 0]) (by simp only [sxs, ph_DB_addsub_Turn]; exact k_addsub_Turn (fN_u f) (nB_small (hlt))) (by rfl)).trans ?_
          refine (treeF_call (r := [wd (r1) 1, wd (r1) 0, ((h1 : Nat) : Int)]) (by simp only [sxs, ph_DB_fma_Fma]; exact (k_fma_Fma (fN_u f) hf ((md_lit 1 (by decide)).1) ((md_lit 1 (by decide)).2) (show iNz 0 = false from rfl) (nB_small (turn_lt _ _)) (nB_u _ _) (nB_u _ _)).trans (by rw [k2]; try rfl)) (by rfl)).trans ?_
          refine (treeF_call (r := [((clsF (fN f) (nB a1 a0) : Nat) : Int), b2i (FP.sgn (fN f) (nB a1 a0))]) (by simp only [sxs, ph_DB_class_Of]; exact k_class_Of (fN_u f) hf (nB_u _ _)) (by rfl)).trans ?_
          refine (treeF_call (r := [((clsF (fN f) (r1) : Nat) : Int), b2i (FP.sgn (fN f) (r1))]) (by simp only [sxs, ph_DB_class_Of]; exact k_class_Of (fN_u f) hf (nB_small (l1))) (by rfl)).trans ?_
          refine tT (by simp only [sxs]; rw [clsF_u8]; exact (bne_nk0 _).trans (by rw [decide_eq_false z1]; rfl)) ?_
          refine tF (by exact nT (by simp only [sxs]; rw [s1]; cases FP.sgn (fN f) (nB a1 a0) <;> rfl)) ?_
          refine tF (by simp only [sxs]; exact beq_eq_false_iff_ne.2 car) ?_
          refine (treeF_call (r := [b2i (decide (clsF (fN f) (q + 1) < 3))]) (by simp only [sxs, ph_DB_class_Finite]; exact k_class_Finite (fN_u f) hf (hn)) (by rfl)).trans ?_
          refine tF (by exact nT (by simp only [sxs]; exact decide_eq_true (fin))) ?_
          refine (treeF_call (r := [wd (turnN (fN f) (q + 1)) 1, wd (turnN (fN f) (q + 1)) 0]) (by simp only [sxs, ph_DB_addsub_Turn]; exact k_addsub_Turn (fN_u f) (hn)) (by rfl)).trans ?_
          refine (treeF_call (r := [wd (r2) 1, wd (r2) 0, ((h2 : Nat) : Int)]) (by simp only [sxs, ph_DB_fma_Fma]; exact (k_fma_Fma (fN_u f) hf ((md_lit 1 (by decide)).1) ((md_lit 1 (by decide)).2) (show iNz 0 = false from rfl) (nB_small (turn_lt _ _)) (nB_u _ _) (nB_u _ _)).trans (by rw [k3]; try rfl)) (by rfl)).trans ?_
          refine (treeF_call (r := [((clsF (fN f) (r2) : Nat) : Int), b2i (FP.sgn (fN f) (r2))]) (by simp only [sxs, ph_DB_class_Of]; exact k_class_Of (fN_u f) hf (nB_small (l2))) (by rfl)).trans ?_
          refine tT (by simp only [sxs]; rw [clsF_u8, z2]; rfl) ?_
          rw [treeF_leaf rfl]; rfl
         ·skip
          refine (treeF_call (r := [b2i (decide (clsF (fN f) (nB a1 a0) = 1 ∨ clsF (fN f) (nB a1 a0) = 2))]) (by simp only [sxs, ph_DB_law21_plain]; exact k_law21_plain (fN_u f) (nB_u _ _)) (by rfl)).trans ?_
          refine tF (by exact nT (by simp only [sxs]; exact decide_eq_true (ha))) ?_
          refine (treeF_call (r := [b2i (decide (clsF (fN f) (nB b1 b0) = 1 ∨ clsF (fN f) (nB b1 b0) = 2))]) (by simp only [sxs, ph_DB_law21_plain]; exact k_law21_plain (fN_u f) (nB_u _ _)) (by rfl)).trans ?_
          refine tF (by exact nT (by simp only [sxs]; exact decide_eq_true (hb))) ?_
          refine (treeF_call (r := [wd (q) 1, wd (q) 0, (16 : Int)]) (by simp only [sxs, ph_DB_div_Div]; exact (k_div_Div (fN_u f) hf ((md_lit 4 (by decide)).1) ((md_lit 4 (by decide)).2) (show iNz 0 = false from rfl) (nB_u _ _) (nB_u _ _)).trans (by rw [k1]; try rfl)) (by rfl)).trans ?_
          refine (treeF_call (r := [((clsF (fN f) (q) : Nat) : Int), b2i (FP.sgn (fN f) (q))]) (by simp only [sxs, ph_DB_class_Of]; exact k_class_Of (fN_u f) hf (nB_small (hlt))) (by rfl)).trans ?_
          refine tF (by simp only [sxs]; rfl) ?_
          refine tF (by simp only [sxs]; rw [clsF_u8, c2]; rfl) ?_
          refine tF (by simp only [sxs]; rfl) ?_
          refine (treeF_call (r := [wd (turnN (fN f) (q)) 1, wd (turnN (fN f) (q)) 0]) (by simp only [sxs, ph_DB_addsub_Turn]; exact k_addsub_Turn (fN_u f) (nB_small (hlt))) (by rfl)).trans ?_
          refine (treeF_call (r := [wd (r1) 1, wd (r1) 0, ((h1 : Nat) : Int)]) (by simp only [sxs, ph_DB_fma_Fma]; exact (k_fma_Fma (fN_u f) hf ((md_lit 1 (by decide)).1) ((md_lit 1 (by decide)).2) (show iNz 0 = false from rfl) (nB_small (turn_lt _ _)) (nB_u _ _) (nB_u _ _)).trans (by rw [k2]; try rfl)) (by rfl)).trans ?_
          refine (treeF_call (r := [((clsF (fN f) (nB a1 a0) : Nat) : Int), b2i (FP.sgn (fN f) (nB a1 a0))]) (by simp only [sxs, ph_DB_class_Of]; exact k_class_Of (fN_u f) hf (nB_u _ _)) (by rfl)).trans ?_
          refine (treeF_call (r := [((clsF (fN f) (r1) : Nat) : Int), b2i (FP.sgn (fN f) (r1))]) (by simp only [sxs, ph_DB_class_Of]; exact k_class_Of (fN_u f) hf (nB_small (l1))) (by rfl)).trans ?_
          refine tT (by simp only [sxs]; rw [clsF_u8]; exact (bne_nk0 _).trans (by rw [decide_eq_false z1]; rfl)) ?_
          refine tF (by exact nT (by simp only [sxs]; rw [s1]; cases FP.sgn (fN f) (nB a1 a0) <;> rfl)) ?_
          refine tF (by simp only [sxs]; exact beq_eq_false_iff_ne.2 car) ?_
          refine (treeF_call (r := [b2i (decide (clsF (fN f) (q + 1) < 3))]) (by simp only [sxs, ph_DB_class_Finite]; exact k_class_Finite (fN_u f) hf (hn)) (by rfl)).trans ?_
          refine tF (by exact nT (by simp only [sxs]; exact decide_eq_true (fin))) ?_
          refine (treeF_call (r := [wd (turnN (fN f) (q + 1)) 1, wd (turnN (fN f) (q + 1)) 0]) (by simp only [sxs, ph_DB_addsub_Turn]; exact k_addsub_Turn (fN_u f) (hn)) (by rfl)).trans ?_
          refine (treeF_call (r := [wd (r2) 1, wd (r2) 0, ((h2 : Nat) : Int)]) (by simp only [sxs, ph_DB_fma_Fma]; exact (k_fma_Fma (fN_u f) hf ((md_lit 1 (by decide)).1) ((md_lit 1 (by decide)).2) (show iNz 0 = false from rfl) (nB_small (turn_lt _ _)) (nB_u _ _) (nB_u _ _)).trans (by rw [k3]; try rfl)) (by rfl)).trans ?_
          refine (treeF_call (r := [((clsF (fN f) (r2) : Nat) : Int), b2i (FP.sgn (fN f) (r2))]) (by simp only [sxs, ph_DB_class_Of]; exact k_class_Of (fN_u f) hf (nB_small (l2))) (by rfl)).trans ?_
          refine tF (by simp only [sxs]; rw [clsF_u8]; exact (beq_nk0 _).trans (decide_eq_false z2)) ?_
          refine tT (by exact nF (by simp only [sxs]; rw [s2]; cases FP.sgn (fN f) (nB a1 a0) <;> rfl)) ?_
          rw [treeF_leaf rfl]; rfl
        ·skip
         refine (treeF_call (r := [b2i (decide (clsF (fN f) (nB a1 a0) = 1 ∨ clsF (fN f) (nB a1 a0) = 2))]) (by simp only [sxs, ph_DB_law21_plain]; exact k_law21_plain (fN_u f) (nB_u _ _)) (by rfl)).trans ?_
         refine tF (by exact nT (by simp only [sxs]; exact decide_eq_true (ha))) ?_
         refine (treeF_call (r := [b2i (decide (clsF (fN f) (nB b1 b0) = 1 ∨ clsF (fN f) (nB b1 b0) = 2))]) (by simp only [sxs, ph_DB_law21_plain]; exact k_law21_plain (fN_u f) (nB_u _ _)) (by rfl)).trans ?_
         refine tF (by exact nT (by simp only [sxs]; exact decide_eq_true (hb))) ?_
         refine (treeF_call (r := [wd (q) 1, wd (q) 0, (16 : Int)]) (by simp only [sxs, ph_DB_div_Div]; exact (k_div_Div (fN_u f) hf ((md_lit 4 (by decide)).1) ((md_lit 4 (by decide)).2) (show iNz 0 = false from rfl) (nB_u _ _) (nB_u _ _)).trans (by rw [k1]; try rfl)) (by rfl)).trans ?_
         refine (treeF_call (r := [((clsF (fN f) (q) : Nat) : Int), b2i (FP.sgn (fN f) (q))]) (by simp only [sxs, ph_DB_class_Of]; exact k_class_Of (fN_u f) hf (nB_small (hlt))) (by rfl)).trans ?_
         refine tF (by simp only [sxs]; rfl) ?_
         refine tF (by simp only [sxs]; rw [clsF_u8, c2]; rfl) ?_
         refine tF (by simp only [sxs]; rfl) ?_
         refine (treeF_call (r := [wd (turnN (fN f) (q)) 1, wd (turnN (fN f) (q)) 0]) (by simp only [sxs, ph_DB_addsub_Turn]; exact k_addsub_Turn (fN_u f) (nB_small (hlt))) (by rfl)).trans ?_
         refine (treeF_call (r := [wd (r1) 1, wd (r1) 0, ((h1 : Nat) : Int)]) (by simp only [sxs, ph_DB_fma_Fma]; exact (k_fma_Fma (fN_u f) hf ((md_lit 1 (by decide)).1) ((md_lit 1 (by decide)).2) (show iNz 0 = false from rfl) (nB_small (turn_lt _ _)) (nB_u _ _) (nB_u _ _)).trans (by rw [k2]; try rfl)) (by rfl)).trans ?_
         refine (treeF_call (r := [((clsF (fN f) (nB a1 a0) : Nat) : Int), b2i (FP.sgn (fN f) (nB a1 a0))]) (by simp only [sxs, ph_DB_class_Of]; exact k_class_Of (fN_u f) hf (nB_u _ _)) (by rfl)).trans ?_
         refine (treeF_call (r := [((clsF (fN f) (r1) : Nat) : Int), b2i (FP.sgn (fN f) (r1))]) (by simp only [sxs, ph_DB_class_Of]; exact k_class_Of (fN_u f) hf (nB_small (l1))) (by rfl)).trans ?_
         refine tT (by simp only [sxs]; rw [clsF_u8]; exact (bne_nk0 _).trans (by rw [decide_eq_false z1]; rfl)) ?_
         refine tF (by exact nT (by simp only [sxs]; rw [s1]; cases FP.sgn (fN f) (nB a1 a0) <;> rfl)) ?_
         refine tF (by simp only [sxs]; exact beq_eq_false_iff_ne.2 car) ?_
         refine (treeF_call (r := [b2i (decide (clsF (fN f) (q + 1) < 3))]) (by simp only [sxs, ph_DB_class_Finite]; exact k_class_Finite (fN_u f) hf (hn)) (by rfl)).trans ?_
         refine tT (by exact nF (by simp only [sxs]; exact decide_eq_false (fin))) ?_
         rw [treeF_leaf rfl]; rfl
     ·skip
      refine (treeF_call (r := [b2i (decide (clsF (fN f) (nB a1 a0) = 1 ∨ clsF (fN f) (nB a1 a0) = 2))]) (by simp only [sxs, ph_DB_law21_plain]; exact k_law21_plain (fN_u f) (nB_u _ _)) (by rfl)).trans ?_
      refine tF (by exact nT (by simp only [sxs]; exact decide_eq_true (ha))) ?_
      refine (treeF_call (r := [b2i (decide (clsF (fN f) (nB b1 b0) = 1 ∨ clsF (fN f) (nB b1 b0) = 2))]) (by simp only [sxs, ph_DB_law21_plain]; exact k_law21_plain (fN_u f) (nB_u _ _)) (by rfl)).trans ?_
      refine tF (by exact nT (by simp only [sxs]; exact decide_eq_true (hb))) ?_
      refine (treeF_call (r := [wd (q) 1, wd (q) 0, ((g : Nat) : Int)]) (by simp only [sxs, ph_DB_div_Div]; exact (k_div_Div (fN_u f) hf ((md_lit 4 (by decide)).1) ((md_lit 4 (by decide)).2) (show iNz 0 = false from rfl) (nB_u _ _) (nB_u _ _)).trans (by rw [k1]; try rfl)) (by rfl)).trans ?_
      refine (treeF_call (r := [((clsF (fN f) (q) : Nat) : Int), b2i (FP.sgn (fN f) (q))]) (by simp only [sxs, ph_DB_class_Of]; exact k_class_Of (fN_u f) hf (nB_small (hlt))) (by rfl)).trans ?_
      refine tF (by simp only [sxs, g8]; exact (beq_nk0 g).trans (decide_eq_false g0)) ?_
      refine tF (by simp only [sxs]; rw [clsF_u8, c2]; rfl) ?_
      refine tT (by simp only [sxs, g8]; exact bne_iff_ne.2 (by omega)) ?_
      rw [treeF_leaf rfl]; rfl
    ·skip
     refine (treeF_call (r := [b2i (decide (clsF (fN f) (nB a1 a0) = 1 ∨ clsF (fN f) (nB a1 a0) = 2))]) (by simp only [sxs, ph_DB_law21_plain]; exact k_law21_plain (fN_u f) (nB_u _ _)) (by rfl)).trans ?_
     refine tF (by exact nT (by simp only [sxs]; exact decide_eq_true (ha))) ?_
     refine (treeF_call (r := [b2i (decide (clsF (fN f) (nB b1 b0) = 1 ∨ clsF (fN f) (nB b1 b0) = 2))]) (by simp only [sxs, ph_DB_law21_plain]; exact k_law21_plain (fN_u f) (nB_u _ _)) (by rfl)).trans ?_
     refine tF (by exact nT (by simp only [sxs]; exact decide_eq_true (hb))) ?_
     refine (treeF_call (r := [wd (q) 1, wd (q) 0, ((g : Nat) : Int)]) (by simp only [sxs, ph_DB_div_Div]; exact (k_div_Div (fN_u f) hf ((md_lit 4 (by decide)).1) ((md_lit 4 (by decide)).2) (show iNz 0 = false from rfl) (nB_u _ _) (nB_u _ _)).trans (by rw [k1]; try rfl)) (by rfl)).trans ?_
     refine (treeF_call (r := [((clsF (fN f) (q) : Nat) : Int), b2i (FP.sgn (fN f) (q))]) (by simp only [sxs, ph_DB_class_Of]; exact k_class_Of (fN_u f) hf (nB_small (hlt))) (by rfl)).trans ?_
     refine tF (by simp only [sxs, g8]; exact (beq_nk0 g).trans (decide_eq_false g0)) ?_
     refine tT (by simp only [sxs]; rw [clsF_u8]; exact bne_iff_ne.2 (by omega)) ?_
     rw [treeF_leaf rfl]; rfl
  ·have hf : fN f < 4 := by
    apply Classical.byContradiction; intro hf
    unfold clsF at ha; rw [if_neg hf] at ha; omega
   refine (treeF_call (r := [b2i (decide (clsF (fN f) (nB a1 a0) = 1 ∨ clsF (fN f) (nB a1 a0) = 2))]) (by simp only [sxs, ph_DB_law21_plain]; exact k_law21_plain (fN_u f) (nB_u _ _)) (by rfl)).trans ?_
   refine tF (by exact nT (by simp only [sxs]; exact decide_eq_true (ha))) ?_
   refine (treeF_call (r := [b2i (decide (clsF (fN f) (nB b1 b0) = 1 ∨ clsF (fN f) (nB b1 b0) = 2))]) (by simp only [sxs, ph_DB_law21_plain]; exact k_law21_plain (fN_u f) (nB_u _ _)) (by rfl)).trans ?_
   refine tT (by exact nF (by simp only [sxs]; exact decide_eq_false (hb))) ?_
   rw [treeF_leaf rfl]; rfl
 ·skip
  refine (treeF_call (r := [b2i (decide (clsF (fN f) (nB a1 a0) = 1 ∨ clsF (fN f) (nB a1 a0) = 2))]) (by simp only [sxs, ph_DB_law21_plain]; exact k_law21_plain (fN_u f) (nB_u _ _)) (by rfl)).trans ?_
  refine tT (by exact nF (by simp only [sxs]; exact decide_eq_false (ha))) ?_
  rw [treeF_leaf rfl]; rfl
end Go.Proofs.YtngiodcdelfdmaaGreatDoor
