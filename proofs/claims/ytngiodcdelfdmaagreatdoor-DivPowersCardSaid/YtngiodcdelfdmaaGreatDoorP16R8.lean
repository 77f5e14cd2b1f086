import Derived.Test.YtngiodcdelfdmaaGreatDoorP15R8
namespace Go.Proofs.YtngiodcdelfdmaaGreatDoor
set_option linter.unusedVariables false
set_option linter.unusedSimpArgs false
set_option maxRecDepth 100000
open Go.RowKit
def addI (f a b : Nat) : Bool := decide (clsF f a = 3) && (decide (clsF f b = 3) && (FP.sgn f a != FP.sgn f b))
def addR (f m : Nat) (after : Bool) (a b : Nat) : Nat × Nat :=
 if 4 ≤ clsF f a then (quN f a, nanFlag f a b) else if 4 ≤ clsF f b then (quN f b, nanFlag f a b)
 else if addI f a b = true then (dfl f, 1)
 else if clsF f a = 3 then (FP.mk f (FP.sgn f a) (FP.inf f), 0)
 else if clsF f b = 3 then (FP.mk f (FP.sgn f b) (FP.inf f), 0)
 else (FP.mk f (FP.addN f m (FP.sgn f a) (FP.sgn f b) (FP.cod f a) (FP.cod f b)) (FP.addC f m after (FP.sgn f a) (FP.sgn f b) (FP.cod f a) (FP.cod f b)).1, (FP.addC f m after (FP.sgn f a) (FP.sgn f b) (FP.cod f a) (FP.cod f b)).2)
def infAB (f a b : Nat) : Bool := decide (clsF f a = 3) || decide (clsF f b = 3)
def fmaI (f a b c : Nat) : Bool := badC (clsF f a) (clsF f b) || (infAB f a b && (decide (clsF f c = 3) && ((FP.sgn f a != FP.sgn f b) != FP.sgn f c)))
def fmaFlag (f a b c : Nat) : Nat := if badC (clsF f a) (clsF f b) = true ∨ clsF f a = 5 ∨ clsF f b = 5 ∨ clsF f c = 5 then 1 else 0
def fmaSg (f m a b c : Nat) : Bool := if infAB f a b = true then (FP.sgn f a != FP.sgn f b) else if clsF f c = 3 then FP.sgn f c else FP.fmaN f m (FP.sgn f a != FP.sgn f b) (FP.sgn f c) (FP.cod f a) (FP.cod f b) (FP.cod f c)
def fmaSc (f m : Nat) (after : Bool) (a b c : Nat) : Nat × Nat := if infAB f a b = true then (FP.inf f, 0) else if clsF f c = 3 then (FP.inf f, 0) else FP.fmaC f m after (FP.sgn f a != FP.sgn f b) (FP.sgn f c) (FP.cod f a) (FP.cod f b) (FP.cod f c)
def fmaR (f m : Nat) (after : Bool) (a b c : Nat) : Nat × Nat :=
 if 4 ≤ clsF f a then (quN f a, fmaFlag f a b c) else if 4 ≤ clsF f b then (quN f b, fmaFlag f a b c) else if 4 ≤ clsF f c then (quN f c, fmaFlag f a b c)
 else if fmaI f a b c = true then (dfl f, 1)
 else (FP.mk f (fmaSg f m a b c) (fmaSc f m after a b c).1, (fmaSc f m after a b c).2)
theorem fmaR_S {f : Nat} (m : Nat) (after : Bool) {a b c : Nat} (ha : ¬ 4 ≤ clsF f a) (hb : ¬ 4 ≤ clsF f b) (hc : ¬ 4 ≤ clsF f c) :
  fmaR f m after a b c = if fmaI f a b c = true then (dfl f, 1) else (FP.mk f (fmaSg f m a b c) (fmaSc f m after a b c).1, (fmaSc f m after a b c).2) := by
 unfold fmaR; rw [if_neg ha, if_neg hb, if_neg hc]
theorem quN_lt {f b : Nat} (hf : f < 4) (h : 4 ≤ clsF f b) : quN f b < W128 ∧ 4 ≤ clsF f (quN f b) ∧ clsF f (quN f b) ≠ 5 := by
 have hcl := FP.cod_lt f b
 have hn : FP.inf f < FP.cod f b := by rw [clsF_cod hf] at h; exact FP.clsC_nan.1 h
 obtain ⟨i1, i2, i3, i4⟩ := inf_gt hf
 have htop := FP.inf_top hf
 have hq : quC f (FP.cod f b) < 2 ^ (FP.fW f - 1) ∧ FP.inf f + 2 ^ (FP.fP f - 2) ≤ quC f (FP.cod f b) := by
  obtain ⟨q4, q5⟩ := cls_nan (c := FP.cod f b) hf
  unfold quC
  by_cases h5 : FP.clsC f (FP.cod f b) = 5
  ·rw [if_pos h5]
   have := q5.1 h5
   omega
  ·rw [if_neg h5]
   refine ⟨hcl, ?_⟩
   apply Nat.le_of_not_lt; intro hlt
   exact h5 (q5.2 ⟨hn, hlt⟩)
 unfold quN
 have hc := clsF_mk hf (FP.sgn f b) hq.1
 have h4 : FP.clsC f (quC f (FP.cod f b)) = 4 := (cls_nan hf).1.2 hq.2
 rw [hc, h4]
 exact ⟨mk_W hf _ hq.1, Nat.le_refl _, by omega⟩
theorem addI_cls {f a b : Nat} (h : addI f a b = true) : clsF f a = 3 ∧ clsF f b = 3 := by
 unfold addI at h
 simp only [Bool.and_eq_true, decide_eq_true_iff] at h
 exact ⟨h.1, h.2.1⟩
theorem addR_lt {f : Nat} (hf : f < 4) (m : Nat) (after : Bool) (a b : Nat) : (addR f m after a b).1 < W128 := by
 unfold addR
 split
 ·rename_i h; exact (quN_lt hf h).1
 ·split
  ·rename_i h; exact (quN_lt hf h).1
  ·split
   ·exact mk_W hf false (dfl_code hf)
   ·split
    ·exact mk_W hf _ (inf_W hf)
    ·split
     ·exact mk_W hf _ (inf_W hf)
     ·exact mk_W hf _ (Nat.lt_of_le_of_lt (FP.roundC_le _ _ _ _ _ _ _) (inf_W hf))
theorem bne_false' (a : Bool) : (a != false) = a := by cases a <;> rfl
theorem clsC_zero_iff {f k : Nat} : FP.clsC f k = 0 ↔ k = 0 := by
 unfold FP.clsC
 by_cases h : k = 0
 ·rw [if_pos h]; simp [h]
 ·rw [if_neg h]
  constructor
  ·intro h2
   exfalso
   revert h2
   split
   ·simp
   ·split
    ·simp
    ·split
     ·simp
     ·split <;> simp
  ·intro h2; exact absurd h2 h
end Go.Proofs.YtngiodcdelfdmaaGreatDoor
