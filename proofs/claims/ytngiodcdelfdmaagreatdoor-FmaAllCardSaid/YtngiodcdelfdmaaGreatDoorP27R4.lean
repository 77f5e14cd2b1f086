import Derived.Test.YtngiodcdelfdmaaGreatDoorZRR4
import Derived.Test.YtngiodcdelfdmaaGreatDoorZQR4
import Derived.Test.YtngiodcdelfdmaaGreatDoorZNR4
namespace Go.Proofs.YtngiodcdelfdmaaGreatDoor
set_option linter.unusedVariables false
set_option linter.unusedSimpArgs false
set_option maxRecDepth 100000
open Go.RowKit
theorem nbeq (a b : Bool) : (!(a == b)) = decide (¬ a = b) := by cases a <;> cases b <;> rfl
theorem k_join {x : Nat} (hx : x < W128) : F_wide_Join [wd x 1, wd x 0, 0, 0] = [wd (x * W128) 0, wd (x * W128) 1, wd (x * W128) 2, wd (x * W128) 3] := by
 rw [s_wide_Join, nB_small hx, show nB 0 0 = 0 from by unfold nB; rw [show u64 0 = 0 from by decide]; rfl, Nat.add_zero, oW_eq]
theorem tm_un {f a : Nat} (hf : f < 4) (h : clsF f a < 3) : FP.tmE f (FP.cod f a) = unE f a ∧ FP.tmS f (FP.cod f a) = unS f a * W128 := by
 obtain ⟨h1, h2, h3⟩ := cls_fin hf h
 unfold FP.tmE FP.tmS unE unS
 by_cases h0 : clsF f a = 0
 ·rw [if_pos (h2.1 h0), if_pos (h2.1 h0), if_neg (by omega), if_neg (by omega), Nat.zero_mul]; exact ⟨rfl, rfl⟩
 ·rw [if_neg (fun h => h0 (h2.2 h)), if_neg (fun h => h0 (h2.2 h)), if_pos (by omega), if_pos (by omega), W128_pow]; exact ⟨rfl, rfl⟩
theorem resT_eq (s t : Bool) (ea : Int) (x : Nat) (eb : Int) (y : Nat) : FP.resT s t ea x eb y = if s = t then FP.sumT ea x eb y else dfT ea x eb y := by
 unfold FP.resT dfT; rfl
theorem resS_eq (s t : Bool) (ea : Int) (x : Nat) (eb : Int) (y : Nat) (h : ¬ s = t) : FP.resS s t ea x eb y = !(s == decide (FP.cmpT ea x eb y < 0)) := by
 unfold FP.resS
 rw [if_neg h]
 by_cases hc : FP.cmpT ea x eb y < 0
 ·rw [if_pos hc, decide_eq_true hc]; revert h; cases s <;> cases t <;> decide
 ·rw [if_neg hc, decide_eq_false hc]; cases s <;> rfl
theorem beq_m3 (m : Int) : (u8 m == 3) = decide ((u8 m).toNat = 3) := by
 have := u8_rng m
 rw [Bool.eq_iff_iff, beq_iff_eq, decide_eq_true_iff]; omega
theorem res_rng {ea eb : Int} (x y : Nat) (ha : -40000 ≤ ea ∧ ea ≤ 40000) (hb : -40000 ≤ eb ∧ eb ≤ 40000) : (-40001 ≤ (FP.sumT ea x eb y).1 ∧ (FP.sumT ea x eb y).1 ≤ 40001) ∧ (-40001 ≤ (dfT ea x eb y).1 ∧ (dfT ea x eb y).1 ≤ 40001) := by
 have hl : ∀ (p q : Int) (u v : Nat), -40000 ≤ p ∧ p ≤ 40000 → -40000 ≤ q ∧ q ≤ 40000 → -40000 ≤ FP.lvl p u q v ∧ FP.lvl p u q v ≤ 40000 := fun p q u v hp hq => by
  unfold FP.lvl; split
  ·exact hq
  ·split
   ·exact hp
   ·omega
 have h1 := hl ea eb x y ha hb
 have h2 := hl eb ea y x hb ha
 unfold FP.sumT dfT FP.difT
 refine ⟨by simp only []; omega, ?_⟩
 split
 ·simp only []; omega
 ·simp only []; omega
end Go.Proofs.YtngiodcdelfdmaaGreatDoor
