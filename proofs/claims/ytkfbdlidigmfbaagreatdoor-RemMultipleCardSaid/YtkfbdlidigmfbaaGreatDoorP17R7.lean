import Derived.Test.YtkfbdlidigmfbaaGreatDoorZQR7
import Derived.Test.YtkfbdlidigmfbaaGreatDoorK1R7
namespace Go.Proofs.YtkfbdlidigmfbaaGreatDoor
set_option linter.unusedVariables false
set_option linter.unusedSimpArgs false
set_option maxRecDepth 100000
open Go.RowKit
theorem tI {Φ : Phi} {ct : Ct} {c : X} {a b : Tr' SV} {l r : List Int} (p : Prop) [Decidable p] (hc : iNz (c.ev l) = decide p) (ht : p → treeF Φ ct a l = r) (hf : ¬ p → treeF Φ ct b l = r) : treeF Φ ct (.ite c a b) l = r := by
 rw [treeF_ite, hc]
 by_cases h : p
 ·rw [decide_eq_true h, if_pos rfl]; exact ht h
 ·rw [decide_eq_false h, if_neg Bool.false_ne_true]; exact hf h
theorem tT {Φ : Phi} {ct : Ct} {c : X} {a b : Tr' SV} {l r : List Int} (hc : iNz (c.ev l) = true) (h : treeF Φ ct a l = r) : treeF Φ ct (.ite c a b) l = r := by rw [treeF_ite, if_pos hc]; exact h
theorem tF {Φ : Phi} {ct : Ct} {c : X} {a b : Tr' SV} {l r : List Int} (hc : iNz (c.ev l) = false) (h : treeF Φ ct b l = r) : treeF Φ ct (.ite c a b) l = r := by rw [treeF_ite, hc, if_neg Bool.false_ne_true]; exact h
theorem dflt_eq {f : Int} (hf : fN f < 4) : F_nan_Default [u8 f] = [wd (dfl (fN f)) 1, wd (dfl (fN f)) 0] := by rw [s_nan_Default, fN_u, if_pos hf, oB_eq]; rfl
theorem known_f {f : Int} (hf : fN f < 4) : (!decide (u8 f < 4)) = false := by rw [decide_eq_true ((u8_lt4 f).2 hf)]; rfl
theorem known_m {m : Int} (hm : u8 m ≤ 4) : (!decide (u8 m ≤ 4)) = false := by rw [decide_eq_true hm]; rfl
theorem qu_eq {f : Int} (hf : fN f < 4) (x y : Int) (h : 4 ≤ clsF (fN f) (nB x y)) : F_nan_Quiet [u8 f, u64 x, u64 y] = [wd (quN (fN f) (nB x y)) 1, wd (quN (fN f) (nB x y)) 0] := by
 have hf3 : fN (u8 f) < 4 := by rw [fN_u]; exact hf
 rw [s_nan_Quiet _ _ _ hf3 (by rw [fN_u, nB_u]; exact h), fN_u, nB_u, oB_eq]; rfl
theorem s_nan_Pick_2 (f i a1 a0 b1 b0 : Int) (hf : fN f < 4) : F_nan_Pick_2 [f, i, a1, a0, b1, b0] = if 4 ≤ clsF (fN f) (nB a1 a0) then [wd (quN (fN f) (nB a1 a0)) 1, wd (quN (fN f) (nB a1 a0)) 0, (if iNz i = true ∨ clsF (fN f) (nB a1 a0) = 5 ∨ clsF (fN f) (nB b1 b0) = 5 then (1 : Int) else 0), 1] else if 4 ≤ clsF (fN f) (nB b1 b0) then [wd (quN (fN f) (nB b1 b0)) 1, wd (quN (fN f) (nB b1 b0)) 0, (if iNz i = true ∨ clsF (fN f) (nB a1 a0) = 5 ∨ clsF (fN f) (nB b1 b0) = 5 then (1 : Int) else 0), 1] else if iNz i = true then [wd (dfl (fN f)) 1, wd (dfl (fN f)) 0, 1, 1] else [0, 0, 0, 0] := by
 have dflt := dflt_eq hf
 have known := known_f hf
 have nanA : F_class_NaN [u8 f, u64 a1, u64 a0] = [b2i (decide (4 ≤ clsF (fN f) (nB a1 a0)))] := by rw [s_class_NaN, fN_u, nB_u]
 have sigA : F_class_Signaling [u8 f, u64 a1, u64 a0] = [b2i (decide (clsF (fN f) (nB a1 a0) = 5))] := by rw [s_class_Signaling, fN_u, nB_u]
 have quA := qu_eq hf a1 a0
 have nanB : F_class_NaN [u8 f, u64 b1, u64 b0] = [b2i (decide (4 ≤ clsF (fN f) (nB b1 b0)))] := by rw [s_class_NaN, fN_u, nB_u]
 have sigB : F_class_Signaling [u8 f, u64 b1, u64 b0] = [b2i (decide (clsF (fN f) (nB b1 b0) = 5))] := by rw [s_class_Signaling, fN_u, nB_u]
 have quB := qu_eq hf b1 b0
 rw [F_nan_Pick_2, t_nan_Pick_2]
 refine (treeF_call (r := [b2i (decide (4 ≤ clsF (fN f) (nB a1 a0)))]) (by simp only [sxs, ph_K1_class_NaN]; exact nanA) (by rfl)).trans ?_
 refine tI (4 ≤ clsF (fN f) (nB a1 a0)) (by simp only [sxs]) (fun h1 => ?_) (fun h1 => ?_)
 ·refine tF (by simp only [sxs]; exact known) ?_
  refine (treeF_call (r := [wd (dfl (fN f)) 1, wd (dfl (fN f)) 0]) (by simp only [sxs, ph_K1_nan_Default]; exact dflt) (by rfl)).trans ?_
  refine (treeF_call (r := [wd (quN (fN f) (nB a1 a0)) 1, wd (quN (fN f) (nB a1 a0)) 0]) (by simp only [sxs, ph_K1_nan_Quiet]; exact quA h1) (by rfl)).trans ?_
  refine tI (iNz i = true) (by simp only [sxs]; exact (Bool.decide_coe _).symm) (fun h2 => ?_) (fun h2 => ?_)
  ·first | (exfalso; omega) | (rw [treeF_leaf rfl]; simp only [sxs]; simp only [h1, h2, eq_self, Bool.false_eq_true, Nat.reduceLeDiff, Nat.reduceEqDiff, if_true, if_false, or_true, true_or, or_false, false_or, or_self, not_true_eq_false, not_false_eq_true, l_ca, l_na, oB_eq, decide_true, decide_false])
  ·refine (treeF_call (r := [b2i (decide (clsF (fN f) (nB a1 a0) = 5))]) (by simp only [sxs, ph_K1_class_Signaling]; exact sigA) (by rfl)).trans ?_
   refine tI (clsF (fN f) (nB a1 a0) = 5) (by simp only [sxs]) (fun h3 => ?_) (fun h3 => ?_)
   ·first | (exfalso; omega) | (rw [treeF_leaf rfl]; simp only [sxs]; simp only [h1, h2, h3, eq_self, Bool.false_eq_true, Nat.reduceLeDiff, Nat.reduceEqDiff, if_true, if_false, or_true, true_or, or_false, false_or, or_self, not_true_eq_false, not_false_eq_true, l_ca, l_na, oB_eq, decide_true, decide_false])
   ·refine (treeF_call (r := [b2i (decide (clsF (fN f) (nB b1 b0) = 5))]) (by simp only [sxs, ph_K1_class_Signaling]; exact sigB) (by rfl)).trans ?_
    refine tI (clsF (fN f) (nB b1 b0) = 5) (by simp only [sxs]) (fun h4 => ?_) (fun h4 => ?_)
    ·first | (exfalso; omega) | (rw [treeF_leaf rfl]; simp only [sxs]; simp only [h1, h2, h3, h4, eq_self, Bool.false_eq_true, Nat.reduceLeDiff, Nat.reduceEqDiff, if_true, if_false, or_true, true_or, or_false, false_or, or_self, not_true_eq_false, not_false_eq_true, l_ca, l_na, oB_eq, decide_true, decide_false])
    ·first | (exfalso; omega) | (rw [treeF_leaf rfl]; simp only [sxs]; simp only [h1, h2, h3, h4, eq_self, Bool.false_eq_true, Nat.reduceLeDiff, Nat.reduceEqDiff, if_true, if_false, or_true, true_or, or_false, false_or, or_self, not_true_eq_false, not_false_eq_true, l_ca, l_na, oB_eq, decide_true, decide_false])
 ·refine (treeF_call (r := [b2i (decide (4 ≤ clsF (fN f) (nB b1 b0)))]) (by simp only [sxs, ph_K1_class_NaN]; exact nanB) (by rfl)).trans ?_
  refine tI (4 ≤ clsF (fN f) (nB b1 b0)) (by simp only [sxs]) (fun h5 => ?_) (fun h5 => ?_)
  ·refine tF (by simp only [sxs]; exact known) ?_
   refine (treeF_call (r := [wd (dfl (fN f)) 1, wd (dfl (fN f)) 0]) (by simp only [sxs, ph_K1_nan_Default]; exact dflt) (by rfl)).trans ?_
   refine (treeF_call (r := [wd (quN (fN f) (nB b1 b0)) 1, wd (quN (fN f) (nB b1 b0)) 0]) (by simp only [sxs, ph_K1_nan_Quiet]; exact quB h5) (by rfl)).trans ?_
   refine tI (iNz i = true) (by simp only [sxs]; exact (Bool.decide_coe _).symm) (fun h6 => ?_) (fun h6 => ?_)
   ·first | (exfalso; omega) | (rw [treeF_leaf rfl]; simp only [sxs]; simp only [h1, h5, h6, eq_self, Bool.false_eq_true, Nat.reduceLeDiff, Nat.reduceEqDiff, if_true, if_false, or_true, true_or, or_false, false_or, or_self, not_true_eq_false, not_false_eq_true, l_ca, l_na, oB_eq, decide_true, decide_false])
   ·refine (treeF_call (r := [b2i (decide (clsF (fN f) (nB a1 a0) = 5))]) (by simp only [sxs, ph_K1_class_Signaling]; exact sigA) (by rfl)).trans ?_
    refine tI (clsF (fN f) (nB a1 a0) = 5) (by simp only [sxs]) (fun h7 => ?_) (fun h7 => ?_)
    ·first | (exfalso; omega) | (rw [treeF_leaf rfl]; simp only [sxs]; simp only [h1, h5, h6, h7, eq_self, Bool.false_eq_true, Nat.reduceLeDiff, Nat.reduceEqDiff, if_true, if_false, or_true, true_or, or_false, false_or, or_self, not_true_eq_false, not_false_eq_true, l_ca, l_na, oB_eq, decide_true, decide_false])
    ·refine (treeF_call (r := [b2i (decide (clsF (fN f) (nB b1 b0) = 5))]) (by simp only [sxs, ph_K1_class_Signaling]; exact sigB) (by rfl)).trans ?_
     refine tI (clsF (fN f) (nB b1 b0) = 5) (by simp only [sxs]) (fun h8 => ?_) (fun h8 => ?_)
     ·first | (exfalso; omega) | (rw [treeF_leaf rfl]; simp only [sxs]; simp only [h1, h5, h6, h7, h8, eq_self, Bool.false_eq_true, Nat.reduceLeDiff, Nat.reduceEqDiff, if_true, if_false, or_true, true_or, or_false, false_or, or_self, not_true_eq_false, not_false_eq_true, l_ca, l_na, oB_eq, decide_true, decide_false])
     ·first | (exfalso; omega) | (rw [treeF_leaf rfl]; simp only [sxs]; simp only [h1, h5, h6, h7, h8, eq_self, Bool.false_eq_true, Nat.reduceLeDiff, Nat.reduceEqDiff, if_true, if_false, or_true, true_or, or_false, false_or, or_self, not_true_eq_false, not_false_eq_true, l_ca, l_na, oB_eq, decide_true, decide_false])
  ·refine tF (by simp only [sxs]; exact known) ?_
   refine tI (¬ iNz i = true) (by simp only [sxs]; cases iNz i <;> rfl) (fun h9 => ?_) (fun h9 => ?_)
   ·first | (exfalso; omega) | (rw [treeF_leaf rfl]; simp only [sxs]; simp only [h1, h5, h9, eq_self, Bool.false_eq_true, Nat.reduceLeDiff, Nat.reduceEqDiff, if_true, if_false, or_true, true_or, or_false, false_or, or_self, not_true_eq_false, not_false_eq_true, l_ca, l_na, oB_eq, decide_true, decide_false])
   ·refine (treeF_call (r := [wd (dfl (fN f)) 1, wd (dfl (fN f)) 0]) (by simp only [sxs, ph_K1_nan_Default]; exact dflt) (by rfl)).trans ?_
    first | (exfalso; omega) | (replace h9 := Decidable.not_not.1 h9; rw [treeF_leaf rfl]; simp only [sxs]; simp only [h1, h5, h9, eq_self, Bool.false_eq_true, Nat.reduceLeDiff, Nat.reduceEqDiff, if_true, if_false, or_true, true_or, or_false, false_or, or_self, not_true_eq_false, not_false_eq_true, l_ca, l_na, oB_eq, decide_true, decide_false])
end Go.Proofs.YtkfbdlidigmfbaaGreatDoor
