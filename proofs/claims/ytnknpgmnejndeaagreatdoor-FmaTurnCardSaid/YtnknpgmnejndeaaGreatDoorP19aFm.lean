import Derived.Test.YtnknpgmnejndeaaGreatDoorP18aFm
/- Calls by numbers: what is answered, wherever the arguments come from; quotients by 1 and by itself. -/
namespace Go.Proofs.YtnknpgmnejndeaaGreatDoor
set_option linter.unusedVariables false
set_option linter.unusedSimpArgs false
set_option maxRecDepth 100000
open Go.RowKit
theorem bt1 : iNz (b2i true) = true := rfl
theorem bt0 : iNz 1 = true := rfl
theorem nT {c : X} {l : List Int} (h : iNz (c.ev l) = true) : iNz ((X.not c).ev l) = false := by rw [ev_not, iNz_b2i, h]; rfl
theorem nF {c : X} {l : List Int} (h : iNz (c.ev l) = false) : iNz ((X.not c).ev l) = true := by rw [ev_not, iNz_b2i, h]; rfl
theorem u8_0 : u8 0 = 0 := by decide
theorem u64_0 : u64 0 = 0 := by decide
theorem u8_1 : u8 1 = 1 := by decide
theorem nB_00 : nB 0 0 = 0 := by unfold nB; rw [show u64 0 = 0 from by decide]; rfl
theorem md_u {m : Int} (hm : u8 m ≤ 4) : (u8 (u8 m)).toNat = (u8 m).toNat ∧ u8 (u8 m) ≤ 4 := by rw [u8_u8]; exact ⟨rfl, hm⟩
theorem md_lit (k : Nat) (h : k ≤ 4) : (u8 (k : Int)).toNat = k ∧ u8 (k : Int) ≤ 4 := by rw [u8_id (by omega) (by omega)]; exact ⟨Int.toNat_natCast k, by omega⟩
theorem u8_flag {k : Nat} (h : k ≤ 255) : u8 (k : Int) = (k : Int) := u8_id (by omega) (by omega)
theorem mir_int (m : Int) (hm : u8 m ≤ 4) : (if u8 m = 2 then (3 : Int) else if u8 m = 3 then 2 else u8 m) = ((FP.mir (u8 m).toNat : Nat) : Int) := by
  have := u8_rng m
  unfold FP.mir
  by_cases h2 : u8 m = 2
  · rw [if_pos h2, if_pos (show (u8 m).toNat = 2 by omega)]; rfl
  rw [if_neg h2, if_neg (show ¬ (u8 m).toNat = 2 by omega)]
  by_cases h3 : u8 m = 3
  · rw [if_pos h3, if_pos (show (u8 m).toNat = 3 by omega)]; rfl
  · rw [if_neg h3, if_neg (show ¬ (u8 m).toNat = 3 by omega)]; omega
theorem mir_le {m : Nat} (h : m ≤ 4) : FP.mir m ≤ 4 := by unfold FP.mir; split <;> (try split) <;> omega
theorem md_mir {m : Int} (hm : u8 m ≤ 4) : (u8 (if (u8 m == 2) = true then (3 : Int) else if (u8 m == 3) = true then 2 else u8 m)).toNat = FP.mir (u8 m).toNat ∧ u8 (if (u8 m == 2) = true then (3 : Int) else if (u8 m == 3) = true then 2 else u8 m) ≤ 4 := by
  simp only [beq_iff_eq]
  rw [mir_int m hm]
  have h := mir_le (m := (u8 m).toNat) (by have := u8_rng m; omega)
  exact md_lit _ h
theorem makeN_one {f : Nat} (hf : f < 4) : makeN f (iNz 0) ((FP.fE f : Nat) : Int) 0 = FP.mk f false (FP.oneC f) := by
  obtain ⟨n1, n2, n3, n4, n5, n6, n7, n8, n9⟩ := FP.fmtN hf
  unfold makeN
  rw [if_neg (by omega), Int.toNat_natCast, Nat.zero_mod, Nat.add_zero, Nat.mod_eq_of_lt (by omega)]; rfl
section
variable {F M T a1 a0 b1 b0 : Int} {φ μ A B : Nat} {τ : Bool}
theorem k_class_NaN (hF : fN F = φ) (hA : nB a1 a0 = A) : F_class_NaN [F, a1, a0] = [b2i (decide (4 ≤ clsF φ A))] := by rw [s_class_NaN, hF, hA]
theorem k_class_Signaling (hF : fN F = φ) (hA : nB a1 a0 = A) : F_class_Signaling [F, a1, a0] = [b2i (decide (clsF φ A = 5))] := by rw [s_class_Signaling, hF, hA]
theorem k_class_Of (hF : fN F = φ) (hφ : φ < 4) (hA : nB a1 a0 = A) : F_class_Of [F, a1, a0] = [((clsF φ A : Nat) : Int), b2i (FP.sgn φ A)] := by
  rw [s_class_Of, hF, hA, if_pos hφ]; unfold clsF; rw [if_pos hφ]
theorem k_addsub_Turn (hF : fN F = φ) (hA : nB a1 a0 = A) : F_addsub_Turn [F, a1, a0] = [wd (turnN φ A) 1, wd (turnN φ A) 0] := by rw [s_Turn', hF, hA, oB_eq]
theorem k_format_Nought (hF : fN F = φ) (hφ : φ < 4) (hT : iNz T = τ) : F_format_Nought [F, T] = [wd (FP.mk φ τ 0) 1, wd (FP.mk φ τ 0) 0] := by rw [s_format_Nought, hF, if_pos hφ, hT, oB_eq]
theorem k_format_Inf (hF : fN F = φ) (hφ : φ < 4) (hT : iNz T = τ) : F_format_Inf [F, T] = [wd (FP.mk φ τ (FP.inf φ)) 1, wd (FP.mk φ τ (FP.inf φ)) 0] := by rw [s_format_Inf, hF, if_pos hφ, hT, oB_eq]
theorem k_format_Cut (hF : fN F = φ) (hA : nB a1 a0 = A) : F_format_Cut [F, a1, a0] = [wd (A % 2 ^ FP.fW φ) 1, wd (A % 2 ^ FP.fW φ) 0] := by rw [s_format_Cut, hF, hA, oB_eq]
theorem k_format_Emax (hF : fN F = φ) : F_format_Emax [F] = [((FP.fE φ : Nat) : Int)] := by rw [s_format_Emax, hF]
theorem k_format_Prec (hF : fN F = φ) : F_format_Prec [F] = [((FP.fP φ : Nat) : Int)] := by rw [s_format_Prec, hF]
theorem k_one (hF : fN F = φ) (hφ : φ < 4) : F_format_Make [F, 0, i64 ((FP.fE φ : Nat) : Int), 0, 0] = [wd (FP.mk φ false (FP.oneC φ)) 1, wd (FP.mk φ false (FP.oneC φ)) 0] := by
  rw [s_format_Make, hF, if_pos hφ, nB_00, i64_i64, i64_fE, oB_eq]
  have : makeN φ (iNz 0) ((FP.fE φ : Nat) : Int) 0 = FP.mk φ false (FP.oneC φ) := makeN_one hφ
  rw [this]
end
theorem cls_nought {f : Nat} (hf : f < 4) (s : Bool) : clsF f (FP.mk f s 0) = 0 ∧ FP.cod f (FP.mk f s 0) = 0 ∧ FP.sgn f (FP.mk f s 0) = s := by
  have h := FP.two_pow_pos (FP.fW f - 1)
  exact ⟨by rw [clsF_mk hf _ h, clsC_zero], FP.cod_mk _ h, FP.sgn_mk _ h⟩
theorem cls_inf {f : Nat} (hf : f < 4) (s : Bool) : clsF f (FP.mk f s (FP.inf f)) = 3 ∧ FP.cod f (FP.mk f s (FP.inf f)) = FP.inf f ∧ FP.sgn f (FP.mk f s (FP.inf f)) = s := by
  have h := inf_W hf
  exact ⟨by rw [clsF_mk hf _ h]; exact FP.clsC_inf.2 rfl, FP.cod_mk _ h, FP.sgn_mk _ h⟩
end Go.Proofs.YtnknpgmnejndeaaGreatDoor
