import Derived.Test.YtkfbdlidigmfbaaGreatDoorP24R7
import Derived.Test.YtkfbdlidigmfbaaGreatDoorZQR7
namespace Go.Proofs.YtkfbdlidigmfbaaGreatDoor
set_option linter.unusedVariables false
set_option linter.unusedSimpArgs false
set_option maxRecDepth 100000
open Go.RowKit
theorem val_inj {f c d : Nat} (hf : f < 4) (h : FP.val f c = FP.val f d) : c = d := FP.cval_inj (FP.fP_ge hf) h
theorem val_zero (f : Nat) : FP.val f 0 = 0 := FP.cval_zero _
theorem val_pos {f c : Nat} (hf : f < 4) (h : 0 < c) : 0 < FP.val f c := FP.cval_pos (FP.fP_ge hf) h
theorem clsF_fin {f a : Nat} (hf : f < 4) : clsF f a < 3 ↔ FP.cod f a < FP.inf f := by rw [clsF_cod hf]; exact FP.clsC_fin
theorem cls_pos {f a : Nat} (hf : f < 4) (h : clsF f a = 1 ∨ clsF f a = 2) : 0 < FP.cod f a ∧ FP.cod f a < FP.inf f :=
 ⟨pos_cod hf (by omega), (clsF_fin hf).1 (by omega)⟩
theorem remR_gen {f : Nat} (hf : f < 4) {a b : Nat} (ha : clsF f a < 3) (hb : clsF f b = 1 ∨ clsF f b = 2) :
  remR f a b = (FP.mk f (FP.sgn f a != (FP.remT (FP.val f (FP.cod f a)) (FP.val f (FP.cod f b)) && !decide (FP.remV (FP.val f (FP.cod f a)) (FP.val f (FP.cod f b)) = 0))) (FP.remC f (FP.cod f a) (FP.cod f b)), 0) := by
 obtain ⟨b0, b1⟩ := cls_pos hf hb
 unfold remR
 rw [if_neg (by omega), if_neg (by omega), if_neg (by rw [badR_eq]; omega)]
 by_cases h0 : clsF f a = 0
 ·rw [if_pos (.inl h0)]
  have hc : FP.cod f a = 0 := by
   apply Nat.eq_zero_of_not_pos; intro hp
   have h1 := (clsF_fin hf).1 ha
   rw [clsF_cod hf] at h0
   exact absurd (clsC_zero_iff.1 h0) (by omega)
  have hr := FP.rem_small (A := FP.val f 0) (B := FP.val f (FP.cod f b)) (by rw [val_zero]; have := val_pos hf b0; omega)
  obtain ⟨r1, r2, r3⟩ := FP.remC_val (c := 0) hf (FP.inf_pos f) b0 b1
  rw [hr.2] at r2
  rw [hc, hr.1, val_inj hf r2, Bool.false_and, bne_false']
 ·rw [if_neg (by omega)]
end Go.Proofs.YtkfbdlidigmfbaaGreatDoor
