import Derived.Test.YtkfbdlidigmfbaaGreatDoorP19aB1
import Derived.Test.YtkfbdlidigmfbaaGreatDoorP20wB1
import Derived.Test.YtkfbdlidigmfbaaGreatDoorH1B1
namespace Go.Proofs.YtkfbdlidigmfbaaGreatDoor
set_option linter.unusedVariables false
set_option linter.unusedSimpArgs false
set_option maxRecDepth 100000
open Go.RowKit
theorem k_law22_size {F a1 a0 : Int} {φ A : Nat} (hF : fN F = φ) (hφ : φ < 4) (hA : nB a1 a0 = A) : F_law22_size [F, a1, a0] = [wd (sizeN φ A) 1, wd (sizeN φ A) 0] := by
 have hf : fN F < 4 := by rw [hF]; exact hφ
 rw [F_law22_size, t_law22_size]
 refine (treeF_call (by simp only [sxs, ph_E10_format_Split]; exact s_Split' _ _ _) (by rfl)).trans ?_
 rw [fN_u, nB_u, sgnF_id hf, codF_id hf, hF, hA]
 unfold sizeN
 obtain ⟨n1, n2, n3, n4, n5, n6, n7, n8, n9⟩ := FP.fmtN hφ
 have hcl := FP.cod_lt φ A
 generalize FP.sgn φ A = s
 generalize FP.cod φ A = c at *
 have hfr : c % 2 ^ (FP.fP φ - 1) < W128 := mod_lt128 _ (by omega)
 refine (treeF_call (r := oB (FP.mk φ false c)) ?_ rfl).trans ?_
 ·have hq2 := (cod_field hφ hcl).2
  simp only [sxs, ph_E10_format_Make]
  rw [s_format_Make, fN_u, hF, if_pos hφ, nB_small hfr, i64_i64, i64_nat (by omega), show iNz 0 = false by decide, make_code hφ hcl, oB_eq]
 rw [treeF_leaf rfl]
 simp only [sxs]
theorem k_law22_size0 {F a1 a0 : Int} (hF : ¬ fN F < 4) : F_law22_size [F, a1, a0] = [0, 0] := by
 rw [F_law22_size, t_law22_size]
 refine (treeF_call (r := [0, 0, 0, 0]) (by simp only [sxs, ph_E10_format_Split]; rw [s_format_Split, fN_u, if_neg hF]) rfl).trans ?_
 refine (treeF_call (r := [0, 0]) (by simp only [sxs, ph_E10_format_Make]; rw [s_format_Make, fN_u, if_neg hF]; rfl) rfl).trans ?_
 rw [treeF_leaf rfl]; rfl
theorem md_rem (m : Int) : (u8 ((u8 m).tmod 5)).toNat = (u8 m).toNat % 5 ∧ u8 ((u8 m).tmod 5) ≤ 4 := by
 have h := u8_rng m
 have e : (u8 m).tmod 5 = u8 m % 5 := Int.tmod_eq_emod_of_nonneg h.1
 rw [e, u8_id (by omega) (by omega)]
 omega
end Go.Proofs.YtkfbdlidigmfbaaGreatDoor
