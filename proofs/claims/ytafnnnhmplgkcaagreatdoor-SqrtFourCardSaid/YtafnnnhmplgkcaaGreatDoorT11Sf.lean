import Derived.Test.YtafnnnhmplgkcaaGreatDoorP33Sf
import Derived.Test.YtafnnnhmplgkcaaGreatDoorV5Sf
/- Laws of roots: of a number four times as great. -/
namespace Go.Proofs.YtafnnnhmplgkcaaGreatDoor
set_option linter.unusedVariables false
set_option linter.unusedSimpArgs false
set_option maxRecDepth 100000
open Go.RowKit
theorem beq_mul2 (E : Nat) (h : E ≤ 16383) : iOp .mul .i64 2 (i64 (E : Int)) = ((2 * E : Nat) : Int) := by
  rw [i64_nat (by omega)]
  show IntKind.i64.wrap (2 * (E : Int)) = _
  rw [w64_i, i64_id (by omega) (by omega)]; omega
theorem true_SqrtFour (l : List Int) (h : l.length = 5) : F_law22_SqrtFour l = [1] := by
  match l, h with
  | [f, m, t, a1, a0], _ =>
  rw [F_law22_SqrtFour, t_law22_SqrtFour]
  by_cases hf : fN f < 4
  · have known := known_f hf
    obtain ⟨c, hc⟩ : ∃ c, FP.cod (fN f) (nB a1 a0) = c := ⟨_, rfl⟩
    have hcl := FP.cod_lt (fN f) (nB a1 a0)
    rw [hc] at hcl
    have e6 := (cod_field hf hcl).2
    have ie : i64 ((c / 2 ^ (FP.fP (fN f) - 1) : Nat) : Int) = ((c / 2 ^ (FP.fP (fN f) - 1) : Nat) : Int) := i64_nat (by omega)
    have ie2 : i64 (((c / 2 ^ (FP.fP (fN f) - 1) : Nat) : Int) + 2) = ((c / 2 ^ (FP.fP (fN f) - 1) + 2 : Nat) : Int) := by
      have e7 := e6
      generalize c / 2 ^ (FP.fP (fN f) - 1) = e at e7 ⊢
      rw [i64_id (by omega) (by omega)]; omega
    have im := beq_mul2 (FP.fE (fN f)) (FP.fmtN hf).2.2.2.2.2.2.1
    have spl := k_split (F := u8 f) (A := nB a1 a0) (fN_u f) hf
    rw [hc] at spl
    by_cases h1 : c / 2 ^ (FP.fP (fN f) - 1) < 1
    · skip
      refine (treeF_call (r := [wd (sizeN (fN f) (nB a1 a0)) 1, wd (sizeN (fN f) (nB a1 a0)) 0]) (by simp only [sxs, ph_V5_law22_size, op_rem8, u8_0, u64_0, ie, ie2, im]; exact k_law22_size (fN_u f) hf (nB_u _ _)) (by rfl)).trans ?_
      refine (treeF_call (r := [b2i (false), ((c / 2 ^ (FP.fP (fN f) - 1) : Nat) : Int), wd (c % 2 ^ (FP.fP (fN f) - 1)) 1, wd (c % 2 ^ (FP.fP (fN f) - 1)) 0]) (by simp only [sxs, ph_V5_format_Split, op_rem8, u8_0, u64_0, ie, ie2, im]; exact spl) (by rfl)).trans ?_
      refine tF (by simp only [sxs, op_rem8, u8_0, u64_0, ie, ie2, im]; exact known) ?_
      refine tT (by simp only [sxs, ie]; exact decide_eq_true (by omega)) ?_
      rw [treeF_leaf rfl]; rfl
    by_cases h2 : 2 * FP.fE (fN f) < c / 2 ^ (FP.fP (fN f) - 1) + 2
    · skip
      refine (treeF_call (r := [wd (sizeN (fN f) (nB a1 a0)) 1, wd (sizeN (fN f) (nB a1 a0)) 0]) (by simp only [sxs, ph_V5_law22_size, op_rem8, u8_0, u64_0, ie, ie2, im]; exact k_law22_size (fN_u f) hf (nB_u _ _)) (by rfl)).trans ?_
      refine (treeF_call (r := [b2i (false), ((c / 2 ^ (FP.fP (fN f) - 1) : Nat) : Int), wd (c % 2 ^ (FP.fP (fN f) - 1)) 1, wd (c % 2 ^ (FP.fP (fN f) - 1)) 0]) (by simp only [sxs, ph_V5_format_Split, op_rem8, u8_0, u64_0, ie, ie2, im]; exact spl) (by rfl)).trans ?_
      refine tF (by simp only [sxs, op_rem8, u8_0, u64_0, ie, ie2, im]; exact known) ?_
      refine tF (by simp only [sxs, ie]; exact decide_eq_false (by omega)) ?_
      refine (treeF_call (r := [((FP.fE (fN f) : Nat) : Int)]) (by simp only [sxs, ph_V5_format_Emax, op_rem8, u8_0, u64_0, ie, ie2, im]; exact k_format_Emax (fN_u f)) (by rfl)).trans ?_
      refine tT (by simp only [sxs, ie, ie2, im]; exact decide_eq_true (by omega)) ?_
      rw [treeF_leaf rfl]; rfl
    have mk4 := k_make4 (F := u8 f) (fN_u f) hf (c := c) (by omega) (by omega)
    obtain ⟨r, g, -, rl, r2l, cl, k1, k2, k3, -⟩ := sqrtR_four hf ((u8 m).toNat % 5) (iNz t) hc (by omega) (by omega)
    refine (treeF_call (r := [wd (sizeN (fN f) (nB a1 a0)) 1, wd (sizeN (fN f) (nB a1 a0)) 0]) (by simp only [sxs, ph_V5_law22_size, op_rem8, u8_0, u64_0, ie, ie2, im]; exact k_law22_size (fN_u f) hf (nB_u _ _)) (by rfl)).trans ?_
    refine (treeF_call (r := [b2i (false), ((c / 2 ^ (FP.fP (fN f) - 1) : Nat) : Int), wd (c % 2 ^ (FP.fP (fN f) - 1)) 1, wd (c % 2 ^ (FP.fP (fN f) - 1)) 0]) (by simp only [sxs, ph_V5_format_Split, op_rem8, u8_0, u64_0, ie, ie2, im]; exact spl) (by rfl)).trans ?_
    refine tF (by simp only [sxs, op_rem8, u8_0, u64_0, ie, ie2, im]; exact known) ?_
    refine tF (by simp only [sxs, ie]; exact decide_eq_false (by omega)) ?_
    refine (treeF_call (r := [((FP.fE (fN f) : Nat) : Int)]) (by simp only [sxs, ph_V5_format_Emax, op_rem8, u8_0, u64_0, ie, ie2, im]; exact k_format_Emax (fN_u f)) (by rfl)).trans ?_
    refine tF (by simp only [sxs, ie, ie2, im]; exact decide_eq_false (by omega)) ?_
    refine (treeF_call (r := [wd (r) 1, wd (r) 0, ((g : Nat) : Int)]) (by simp only [sxs, ph_V5_sqrt_Sqrt, op_rem8, u8_0, u64_0, ie, ie2, im]; exact (k_sqrt_Sqrt (fN_u f) hf ((md_rem m).1) ((md_rem m).2) (iNz_b2i _) (nB_small (size_lt hf _))).trans (by rw [k1]; try rfl)) (by rfl)).trans ?_
    refine (treeF_call (r := [wd (c + 2 * 2 ^ (FP.fP (fN f) - 1)) 1, wd (c + 2 * 2 ^ (FP.fP (fN f) - 1)) 0]) (by simp only [sxs, ph_V5_format_Make, op_rem8, u8_0, u64_0, ie, ie2, im]; exact mk4) (by rfl)).trans ?_
    refine (treeF_call (r := [wd (r + 2 ^ (FP.fP (fN f) - 1)) 1, wd (r + 2 ^ (FP.fP (fN f) - 1)) 0, ((g : Nat) : Int)]) (by simp only [sxs, ph_V5_sqrt_Sqrt, op_rem8, u8_0, u64_0, ie, ie2, im]; exact (k_sqrt_Sqrt (fN_u f) hf ((md_rem m).1) ((md_rem m).2) (iNz_b2i _) (nB_small (cl))).trans (by rw [k2]; try rfl)) (by rfl)).trans ?_
    refine (treeF_call (r := [wd (r + 2 ^ (FP.fP (fN f) - 1)) 1, wd (r + 2 ^ (FP.fP (fN f) - 1)) 0, (0 : Int)]) (by simp only [sxs, ph_V5_addsub_Add, op_rem8, u8_0, u64_0, ie, ie2, im]; exact (k_addsub_Add (fN_u f) hf ((md_rem m).1) ((md_rem m).2) (iNz_b2i _) (nB_small (rl)) (nB_small (rl))).trans (by rw [k3]; try rfl)) (by rfl)).trans ?_
    refine tT (by simp only [sxs, op_rem8, u8_0, u64_0, ie, ie2, im]; simp only [beq_self_eq_true, Bool.and_true, Bool.and_self, bt1, bt0]) ?_
    refine tT (by simp only [sxs, op_rem8, u8_0, u64_0, ie, ie2, im]; simp only [beq_self_eq_true, bne_self_eq_false]) ?_
    rw [treeF_leaf rfl]; rfl
  · skip
    refine (treeF_call (r := [(0 : Int), (0 : Int)]) (by simp only [sxs, ph_V5_law22_size, op_rem8, u8_0, u64_0]; exact k_law22_size0 (by rw [fN_u]; exact hf)) (by rfl)).trans ?_
    refine (treeF_call (r := [(0 : Int), (0 : Int), (0 : Int), (0 : Int)]) (by simp only [sxs, ph_V5_format_Split, op_rem8, u8_0, u64_0]; exact k_split0 (by rw [fN_u]; exact hf)) (by rfl)).trans ?_
    refine tT (by simp only [sxs]; rw [decide_eq_false (fun h => hf ((u8_lt4 f).1 h))]; rfl) ?_
    rw [treeF_leaf rfl]; rfl
end Go.Proofs.YtafnnnhmplgkcaaGreatDoor
