import Derived.Test.YtemomocmfggiaaaGreatDoorTM2U2
import Derived.Test.YtemomocmfggiaaaGreatDoorP17U2
import Derived.Test.YtemomocmfggiaaaGreatDoorZGU2
namespace Go.Proofs.YtemomocmfggiaaaGreatDoor
set_option linter.unusedVariables false
set_option linter.unusedSimpArgs false
set_option maxRecDepth 100000
open Go.RowKit
def fitB (f n : Nat) : Bool := decide (f < 4) && decide (n < 2 ^ FP.fW f)
theorem s_format_Fits (f a b : Int) : F_format_Fits [f, a, b] = [b2i (fitB (fN f) (nB a b))] := by
 rw [F_format_Fits, t_format_Fits]
 refine tI (fN f < 4) (by simp only [sxs, u8_lt4]) (fun h => ?_) (fun h => ?_)
 ·have hx := nB_lt a b
  obtain ⟨w1, w0⟩ := nB_words a b
  refine (treeF_call (r := oB (nB a b % 2 ^ FP.fW (fN f))) (by simp only [sxs, ph_TM1_format_Cut]; rw [s_format_Cut, fN_u, nB_u]; rfl) (by rfl)).trans ?_
  rw [treeF_leaf rfl]
  simp only [sxs]
  have hm : nB a b % 2 ^ FP.fW (fN f) < W128 := Nat.lt_of_le_of_lt (Nat.mod_le _ _) hx
  have key : ((decide (wd (nB a b % 2 ^ FP.fW (fN f)) 1 = u64 a) && (decide (wd (nB a b % 2 ^ FP.fW (fN f)) 0 = u64 b) && true)) = fitB (fN f) (nB a b)) := by
   unfold fitB
   rw [decide_eq_true h, Bool.true_and, Bool.and_true, Bool.eq_iff_iff]
   simp only [Bool.and_eq_true, decide_eq_true_iff]
   constructor
   ·rintro ⟨e1, e0⟩
    have := nB_oB hm
    rw [e1, e0, nB_u] at this
    rw [this]; exact Nat.mod_lt _ (Nat.two_pow_pos _)
   ·intro hlt
    rw [Nat.mod_eq_of_lt hlt]
    exact ⟨w1.symm, w0.symm⟩
  rw [← key]
  rfl
 ·rw [treeF_leaf rfl]; simp only [sxs]; unfold fitB; rw [decide_eq_false h]; rfl
def hasK (k n : Nat) : Bool := match k with | 0 => decide (n < 2147483648 ∨ 18446744071562067968 ≤ n) | 1 => decide (n < 4294967296) | 2 => true | 3 => true | _ => false
theorem wrI32 (x : Int) : IntKind.i32.wrap x = (x + 2147483648) % 4294967296 - 2147483648 := by
 simp only [IntKind.wrap, IntKind.signed, IntKind.bits]
 simp
 split <;> omega
theorem wrU32 (x : Int) : IntKind.u32.wrap x = x % 4294967296 := by
 simp only [IntKind.wrap, IntKind.signed, IntKind.bits]
 simp
theorem wrU64 (x : Int) : u64 x = x % 18446744073709551616 := by
 unfold u64; rw [wrapC_eq]
 simp only [IntKind.wrap, IntKind.signed, IntKind.bits]
 simp
theorem s_fromint_Has (k n : Int) : F_fromint_Has [k, n] = [b2i (hasK (fN k) (u64 n).toNat)] := by
 have hu := u8_rng k
 have hn := u64_rng n
 have hk : fN k = (u8 k).toNat := rfl
 rw [F_fromint_Has, t_fromint_Has]
 refine tI (u8 k = 0) (by simp only [sxs]; rfl) (fun h => ?_) (fun h => ?_)
 ·rw [treeF_leaf rfl]; simp only [sxs]
  rw [hk, h]
  congr 2
  rw [wrI32, Bool.eq_iff_iff]
  unfold hasK
  simp only [Int.toNat_zero, decide_eq_true_iff, beq_iff_eq]
  rw [i64_id (by omega) (by omega), wrU64]
  omega
 refine tI (u8 k = 1) (by simp only [sxs]; rfl) (fun h => ?_) (fun h => ?_)
 ·rw [treeF_leaf rfl]; simp only [sxs]
  rw [hk, h]
  congr 2
  rw [wrU32, Bool.eq_iff_iff]
  unfold hasK
  simp only [Int.toNat_one, decide_eq_true_iff, beq_iff_eq]
  rw [wrU64]
  omega
 refine tI (u8 k = 2) (by simp only [sxs]; rfl) (fun h => ?_) (fun h => ?_)
 ·rw [treeF_leaf rfl]; simp only [sxs]
  rw [hk, h]
  congr 2
  simp [hasK]
 refine tI (u8 k = 3) (by simp only [sxs]; rfl) (fun h => ?_) (fun h => ?_)
 ·rw [treeF_leaf rfl]; simp only [sxs]
  rw [hk, h]
  congr 2
  simp [hasK]
 rw [treeF_leaf rfl]; simp only [sxs]
 rw [hk]
 congr 1
 have : hasK (u8 k).toNat (u64 n).toNat = false := by
  unfold hasK
  split
  ·omega
  ·omega
  ·omega
  ·omega
  ·rfl
 rw [this]; rfl
end Go.Proofs.YtemomocmfggiaaaGreatDoor
