import Derived.Test.YtafnnnhmplgkcaaGreatDoorP23
/- Remainders: turned signs. -/
namespace Go.Proofs.YtafnnnhmplgkcaaGreatDoor
set_option linter.unusedVariables false
set_option linter.unusedSimpArgs false
set_option maxRecDepth 100000
open Go.RowKit
theorem cod_le_inf {f a : Nat} (hf : f < 4) (ha : ¬ 4 ≤ clsF f a) : FP.cod f a ≤ FP.inf f := by
  rw [clsF_cod hf] at ha
  apply Nat.le_of_not_lt; intro h
  exact ha (FP.clsC_nan.2 h)
theorem cls_mk_le {f c : Nat} (hf : f < 4) (s : Bool) (h : c ≤ FP.inf f) : ¬ 4 ≤ clsF f (FP.mk f s c) := by
  rw [clsF_mk hf s (Nat.lt_of_le_of_lt h (inf_lt hf))]
  have := clsC_le3 hf h
  omega
theorem fin_cod {f a : Nat} (hf : f < 4) (h : ¬ 4 ≤ clsF f a) (h3 : ¬ clsF f a = 3) : FP.cod f a < FP.inf f := by
  have h1 := cod_le_inf hf h
  apply Nat.lt_of_le_of_ne h1
  intro e
  apply h3
  rw [clsF_cod hf]
  exact FP.clsC_inf.2 e
theorem pos_cod {f a : Nat} (hf : f < 4) (h0 : ¬ clsF f a = 0) : 0 < FP.cod f a := by
  apply Nat.pos_of_ne_zero
  intro e
  apply h0
  rw [clsF_cod hf, e]; unfold FP.clsC; rw [if_pos rfl]
/-- what is answered is a nan, or a number with no flag -/
theorem remR_turn {f : Nat} (hf : f < 4) {a b : Nat} (ha : ¬ 4 ≤ clsF f a) (hb : ¬ 4 ≤ clsF f b) :
    (badR (clsF f a) (clsF f b) = true ∧ remR f a b = (dfl f, 1) ∧ remR f a (turnN f b) = (dfl f, 1) ∧ remR f (turnN f a) b = (dfl f, 1)) ∨
    (∃ r, r < W128 ∧ ¬ 4 ≤ clsF f r ∧ remR f a b = (r, 0) ∧ remR f a (turnN f b) = (r, 0) ∧ remR f (turnN f a) b = (turnN f r, 0)) := by
  unfold remR
  simp only [clsF_turn, cod_turn hf, sgn_turn hf, ha, hb, if_false]
  by_cases hb2 : badR (clsF f a) (clsF f b) = true
  · left; simp only [hb2, if_true, and_self]
  · right
    have h2 := hb2
    rw [badR_eq, not_or] at h2
    simp only [hb2, Bool.false_eq_true, if_false]
    have ca := fin_cod hf ha h2.1
    by_cases h3 : clsF f a = 0 ∨ clsF f b = 3
    · simp only [h3, if_true]
      have hl : FP.cod f a < 2 ^ (FP.fW f - 1) := FP.cod_lt _ _
      refine ⟨FP.mk f (FP.sgn f a) (FP.cod f a), mk_W hf _ hl, cls_mk_le hf _ (Nat.le_of_lt ca), rfl, rfl, ?_⟩
      rw [turn_mk hf _ hl]
    · simp only [h3, if_false]
      have h4 : ¬ clsF f b = 3 := fun h => h3 (.inr h)
      obtain ⟨r1, r2, r3⟩ := FP.remC_val hf ca (pos_cod hf h2.2) (fin_cod hf hb h4)
      have hl : FP.remC f (FP.cod f a) (FP.cod f b) < 2 ^ (FP.fW f - 1) := Nat.lt_trans r1 (inf_lt hf)
      refine ⟨_, mk_W hf _ hl, cls_mk_le hf _ (Nat.le_of_lt r1), rfl, rfl, ?_⟩
      rw [turn_mk hf _ hl, bne_not1]
end Go.Proofs.YtafnnnhmplgkcaaGreatDoor
