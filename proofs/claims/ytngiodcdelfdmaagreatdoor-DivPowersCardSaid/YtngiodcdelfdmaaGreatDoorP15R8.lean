import Derived.Test.YtngiodcdelfdmaaGreatDoorZGR8
import Derived.Test.YtngiodcdelfdmaaGreatDoorFQR8
namespace Go.Proofs.YtngiodcdelfdmaaGreatDoor
set_option linter.unusedVariables false
set_option linter.unusedSimpArgs false
set_option maxRecDepth 100000
open Go.RowKit
def likeC (x y : Nat) : Bool := decide (x = y) && (decide (x = 3) || decide (x = 0))
def divS (f m : Nat) (after neg : Bool) (c d : Nat) : Nat × Nat :=
 if FP.clsC f c = 3 then (FP.inf f, 0) else if FP.clsC f d = 3 ∨ FP.clsC f c = 0 then (0, 0) else if FP.clsC f d = 0 then (FP.inf f, 2) else FP.divC f m after neg c d
def divR (f m : Nat) (after : Bool) (a b : Nat) : Nat × Nat :=
 if 4 ≤ clsF f a then (quN f a, nanFlag f a b) else if 4 ≤ clsF f b then (quN f b, nanFlag f a b)
 else if likeC (clsF f a) (clsF f b) = true then (dfl f, 1)
 else (FP.mk f (FP.sgn f a != FP.sgn f b) (divS f m after (FP.sgn f a != FP.sgn f b) (FP.cod f a) (FP.cod f b)).1, (divS f m after (FP.sgn f a != FP.sgn f b) (FP.cod f a) (FP.cod f b)).2)
theorem divR_S {f : Nat} (m : Nat) (after : Bool) {a b : Nat} (ha : ¬ 4 ≤ clsF f a) (hb : ¬ 4 ≤ clsF f b) :
  divR f m after a b = if likeC (clsF f a) (clsF f b) = true then (dfl f, 1) else
   (FP.mk f (FP.sgn f a != FP.sgn f b) (divS f m after (FP.sgn f a != FP.sgn f b) (FP.cod f a) (FP.cod f b)).1, (divS f m after (FP.sgn f a != FP.sgn f b) (FP.cod f a) (FP.cod f b)).2) := by
 unfold divR; rw [if_neg ha, if_neg hb]
theorem divS_le (f m : Nat) (after neg : Bool) (c d : Nat) : (divS f m after neg c d).1 ≤ FP.inf f := by
 unfold divS
 split
 ·exact Nat.le_refl _
 ·split
  ·exact Nat.zero_le _
  ·split
   ·exact Nat.le_refl _
   ·exact FP.roundC_le _ _ _ _ _ _ _
theorem divS_lt {f : Nat} (hf : f < 4) (m : Nat) (after neg : Bool) (c d : Nat) : (divS f m after neg c d).1 < 2 ^ (FP.fW f - 1) :=
 Nat.lt_of_le_of_lt (divS_le _ _ _ _ _ _) (inf_W hf)
theorem divS_flag (f m : Nat) (after neg : Bool) (c d : Nat) : (divS f m after neg c d).2 ≤ 24 := by
 unfold divS
 split
 ·simp
 ·split
  ·simp
  ·split
   ·simp
   ·have := FP.roundC_flag_set (FP.fP f) (FP.fE f) m after neg (FP.val f c * 2 ^ FP.fU f) (FP.val f d)
    unfold FP.divC; omega
theorem divR_lt {f : Nat} (hf : f < 4) (m : Nat) (after : Bool) {a b : Nat} (ha : ¬ 4 ≤ clsF f a) (hb : ¬ 4 ≤ clsF f b) : (divR f m after a b).1 < W128 := by
 rw [divR_S _ _ ha hb]
 split
 ·exact mk_W hf false (dfl_code hf)
 ·exact mk_W hf _ (divS_lt hf _ _ _ _ _)
theorem divR_flag (f : Nat) (m : Nat) (after : Bool) {a b : Nat} (ha : ¬ 4 ≤ clsF f a) (hb : ¬ 4 ≤ clsF f b) : (divR f m after a b).2 ≤ 24 := by
 rw [divR_S _ _ ha hb]
 split
 ·simp
 ·exact divS_flag _ _ _ _ _ _
end Go.Proofs.YtngiodcdelfdmaaGreatDoor
