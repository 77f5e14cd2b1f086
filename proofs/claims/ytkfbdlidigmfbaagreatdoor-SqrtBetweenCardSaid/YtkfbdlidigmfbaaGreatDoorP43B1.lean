import Derived.Test.YtkfbdlidigmfbaaGreatDoorP29B1
import Derived.Test.YtkfbdlidigmfbaaGreatDoorA4B1
namespace Go.Proofs.YtkfbdlidigmfbaaGreatDoor
set_option linter.unusedVariables false
set_option linter.unusedSimpArgs false
set_option maxRecDepth 100000
open Go.RowKit
theorem k_addsub_Sub {F M T a1 a0 b1 b0 : Int} {φ μ A B : Nat} {τ : Bool} (hF : fN F = φ) (hφ : φ < 4) (hM : (u8 M).toNat = μ) (hM4 : u8 M ≤ 4) (hT : iNz T = τ) (hA : nB a1 a0 = A) (hB : nB b1 b0 = B) (hn : ¬ 4 ≤ clsF φ B) :
  F_addsub_Sub [F, M, T, a1, a0, b1, b0] = [wd (addR φ μ τ A (turnN φ B)).1 1, wd (addR φ μ τ A (turnN φ B)).1 0, (((addR φ μ τ A (turnN φ B)).2 : Nat) : Int)] := by
 rw [F_addsub_Sub, t_addsub_Sub]
 refine (treeF_call (r := [b2i (decide (4 ≤ clsF φ B))]) (by simp only [sxs, ph_A4_class_NaN]; rw [s_class_NaN, fN_u, hF, nB_u, hB]) (by rfl)).trans ?_
 refine tT (by simp only [sxs]; rw [decide_eq_false hn]; rfl) ?_
 refine (treeF_call (r := [wd (turnN φ B) 1, wd (turnN φ B) 0]) (by simp only [sxs, ph_A4_addsub_Turn]; exact k_addsub_Turn (by rw [fN_u]; exact hF) (by rw [nB_u]; exact hB)) (by rfl)).trans ?_
 refine (treeF_call (r := [wd (addR φ μ τ A (turnN φ B)).1 1, wd (addR φ μ τ A (turnN φ B)).1 0, (((addR φ μ τ A (turnN φ B)).2 : Nat) : Int)]) (by simp only [sxs, ph_A4_addsub_Add]; exact k_addsub_Add (by rw [fN_u]; exact hF) hφ (by rw [u8_u8]; exact hM) (by rw [u8_u8]; exact hM4) (by rw [iNz_b2i]; exact hT) (by rw [nB_u]; exact hA) (nB_small (turn_lt _ _))) (by rfl)).trans ?_
 have h8 := u8_flag (k := (addR φ μ τ A (turnN φ B)).2) (by have := addR_flag φ μ τ A (turnN φ B); omega)
 rw [treeF_leaf rfl]; simp only [sxs, u64_wd, h8]
end Go.Proofs.YtkfbdlidigmfbaaGreatDoor
