import Derived.Test.YtnknpgmnejndeaaGreatDoorP34Fm
import Derived.Test.YtnknpgmnejndeaaGreatDoorP32Fm
import Derived.Test.YtnknpgmnejndeaaGreatDoorP29Fm
/- Laws of fused products, by codes. -/
namespace Go.Proofs.YtnknpgmnejndeaaGreatDoor
set_option linter.unusedVariables false
set_option linter.unusedSimpArgs false
set_option maxRecDepth 100000
open Go.RowKit
/-! ### nans -/
theorem fma_nan_r {f : Nat} (m : Nat) (t : Bool) {a b c : Nat} (ha : ¬ 4 ≤ clsF f a) (hb : ¬ 4 ≤ clsF f b) (hbad : badC (clsF f a) (clsF f b) = true) (hc : 4 ≤ clsF f c) : fmaR f m t a b c = (quN f c, 1) := by
  unfold fmaR; rw [if_neg ha, if_neg hb, if_pos hc]
  unfold fmaFlag; rw [if_pos (.inl hbad)]
theorem fma_nan_i {f : Nat} (m : Nat) (t : Bool) {a b c : Nat} (ha : ¬ 4 ≤ clsF f a) (hb : ¬ 4 ≤ clsF f b) (hbad : badC (clsF f a) (clsF f b) = true) (hc : ¬ 4 ≤ clsF f c) : fmaR f m t a b c = (dfl f, 1) := by
  unfold fmaR; rw [if_neg ha, if_neg hb, if_neg hc, if_pos (fmaI_bad hbad)]
theorem fma_nan_c {f : Nat} (m : Nat) (t : Bool) {a b c : Nat} (ha : ¬ 4 ≤ clsF f a) (hb : ¬ 4 ≤ clsF f b) (hbad : badC (clsF f a) (clsF f b) = false) (hc : 4 ≤ clsF f c) : fmaR f m t a b c = (quN f c, if clsF f c = 5 then 1 else 0) := by
  unfold fmaR; rw [if_neg ha, if_neg hb, if_pos hc]
  unfold fmaFlag
  rw [hbad]
  by_cases h5 : clsF f c = 5
  · rw [if_pos h5, if_pos (.inr (.inr (.inr h5)))]
  · rw [if_neg h5, if_neg (by rintro (h | h | h | h) <;> first | cases h; done | omega)]
theorem fma_nan_a {f : Nat} (m : Nat) (t : Bool) {a b c : Nat} (hc : 4 ≤ clsF f c) : ∃ g, g ≤ 1 ∧ fmaR f m t c a b = (quN f c, g) := by
  unfold fmaR; rw [if_pos hc]; exact ⟨_, fmaFlag_le _ _ _ _, rfl⟩
/-! ### products by 1, by 2 -/
theorem mulR_one {f : Nat} (hf : f < 4) (m : Nat) (t : Bool) {a : Nat} (ha : ¬ 4 ≤ clsF f a) : mulR f m t a (FP.mk f false (FP.oneC f)) = (a % 2 ^ FP.fW f, 0) := by
  obtain ⟨o1, o2, o3, o4⟩ := one_bits hf
  unfold mulR
  rw [if_neg ha, o2, o3, o4, if_neg (by omega), if_neg (by unfold badC; simp; omega), bne_false']
  by_cases h3 : clsF f a = 3
  · rw [if_pos (.inl h3)]
    have hc : FP.cod f a = FP.inf f := by rw [clsF_cod hf] at h3; exact FP.clsC_inf.1 h3
    rw [← FP.mk_cut hf, hc]
  · rw [if_neg (by omega)]
    have h := (cls_fin hf (show clsF f a < 3 by omega)).1
    have e := FP.mulC_one (m := m) (after := t) (neg := FP.sgn f a) hf h
    unfold FP.oneC
    rw [e, ← FP.mk_cut hf]
def twoC (f : Nat) : Nat := (FP.fE f + 1) * 2 ^ (FP.fP f - 1)
theorem two_bits {f : Nat} (hf : f < 4) : twoC f < 2 ^ (FP.fW f - 1) ∧ clsF f (FP.mk f false (twoC f)) = 2 ∧ FP.cod f (FP.mk f false (twoC f)) = twoC f ∧ FP.sgn f (FP.mk f false (twoC f)) = false := by
  have hE := (FP.fE_big hf).2
  have hI : FP.inf f = (2 * FP.fE f + 1) * 2 ^ (FP.fP f - 1) := rfl
  have hp := FP.two_pow_pos (FP.fP f - 1)
  have h1 : twoC f < FP.inf f := by rw [hI]; unfold twoC; exact Nat.mul_lt_mul_of_pos_right (by omega) hp
  have hl := Nat.lt_trans h1 (inf_lt hf)
  refine ⟨hl, ?_, FP.cod_mk _ hl, FP.sgn_mk _ hl⟩
  rw [clsF_mk hf _ hl]
  have hge : 2 ^ (FP.fP f - 1) ≤ twoC f := by unfold twoC; exact Nat.le_mul_of_pos_left _ (by omega)
  unfold FP.clsC
  rw [if_neg (by omega), if_neg (by omega), if_pos h1]
theorem mulR_two {f : Nat} (hf : f < 4) (m : Nat) (t : Bool) {a : Nat} (ha : ¬ 4 ≤ clsF f a) : mulR f m t a (FP.mk f false (twoC f)) = addR f m t a a := by
  obtain ⟨o1, o2, o3, o4⟩ := two_bits hf
  have hI : ¬ addI f a a = true := by unfold addI; simp
  have hb : ¬ badC (clsF f a) 2 = true := by unfold badC; simp; omega
  have n2 : ¬ 4 ≤ 2 := by omega
  have n3 : ¬ (2 : Nat) = 3 := by omega
  obtain ⟨e1, e2⟩ := FP.add_self (m := m) (c := FP.cod f a) (after := t) hf (by have := (FP.fE_big hf).2; omega) (FP.sgn f a)
  unfold mulR addR
  rw [o2, o3, o4, bne_false']
  by_cases h3 : clsF f a = 3
  · simp only [ha, hI, hb, n2, h3, if_true, if_false, true_or]
    rw [h3] at hb
    simp only [hb, if_false, Bool.false_eq_true, show ¬ 4 ≤ 3 by omega]
  · simp only [ha, hI, hb, n2, n3, h3, if_true, if_false, or_self, Bool.false_eq_true]
    rw [e1, e2]; rfl
theorem addR_bound {f : Nat} (hf : f < 4) (m : Nat) (t : Bool) (a : Nat) : (addR f m t a a).1 < W128 := addR_lt hf m t a a
/-! ### what a rounded product lacks -/
theorem fmaR_rest {f m : Nat} {t : Bool} (hf : f < 4) (hm : m = 0 ∨ m = 1) {a b q k : Nat} (ha : clsF f a = 1 ∨ clsF f a = 2) (hb : clsF f b = 1 ∨ clsF f b = 2) (h : mulR f m t a b = (q, k)) (hq : clsF f q < 3)
    (hx : 2 * (FP.fP f : Int) - FP.fE f ≤ unE f a + unE f b) : ∃ e s, e < FP.inf f ∧ fmaR f m t a b (turnN f q) = (FP.mk f s e, 0) ∧ (e = 0 ↔ k = 0) := by
  obtain ⟨a1, a2, a3, a4, a5⟩ := unS_big hf ha
  obtain ⟨b1, b2, b3, b4, b5⟩ := unS_big hf hb
  have hE := (FP.fE_big hf).2
  rw [a3, b3] at hx
  unfold mulR at h
  rw [if_neg (by omega), if_neg (by omega), if_neg (by unfold badC; simp; omega), if_neg (by omega)] at h
  generalize hs : (FP.sgn f a != FP.sgn f b) = s at h
  obtain ⟨q', k', hC⟩ : ∃ q' k', FP.mulC f m t s (FP.cod f a) (FP.cod f b) = (q', k') := ⟨_, _, rfl⟩
  rw [hC] at h
  have e1 : FP.mk f s q' = q := congrArg Prod.fst h
  have e2 : k' = k := congrArg Prod.snd h
  subst e2
  have ql' : q' ≤ FP.inf f := by
    have : (FP.mulC f m t s (FP.cod f a) (FP.cod f b)).1 ≤ FP.inf f := FP.roundC_le _ _ _ _ _ _ _
    rw [hC] at this; exact this
  have ql : q' < 2 ^ (FP.fW f - 1) := Nat.lt_of_le_of_lt ql' (inf_lt hf)
  have qi : q' < FP.inf f := by
    rw [← e1, clsF_mk hf _ ql] at hq; exact FP.clsC_fin.1 hq
  obtain ⟨e, he, hv, hz⟩ := FP.mul_rest hf hm a4 a5 b4 b5 hC qi hx
  have tc : clsF f (turnN f q) < 3 := by rw [clsF_turn]; exact hq
  have t1 : FP.cod f (turnN f q) = q' := by rw [cod_turn hf, ← e1]; exact FP.cod_mk _ ql
  have t2 : FP.sgn f (turnN f q) = !s := by rw [sgn_turn hf, ← e1, FP.sgn_mk _ ql]
  have hI : fmaI f a b (turnN f q) = false := by
    unfold fmaI infAB badC
    rw [Bool.or_eq_false_iff]
    constructor
    · simp; omega
    · simp; omega
  have hiAB : infAB f a b = false := by unfold infAB; simp; omega
  refine ⟨e, fmaSg f m a b (turnN f q), he, ?_, hz⟩
  rw [fmaR_S m t (by omega) (by omega) (by omega), if_neg (by rw [hI]; exact Bool.false_ne_true)]
  have hSc : fmaSc f m t a b (turnN f q) = (e, 0) := by
    unfold fmaSc
    rw [hiAB, if_neg Bool.false_ne_true, if_neg (by omega), t1, t2, hs]
    unfold FP.fmaC
    rw [hv]
    exact FP.roundC_exact (FP.fP_ge hf) (FP.two_pow_pos _) he rfl
  rw [hSc]
end Go.Proofs.YtnknpgmnejndeaaGreatDoor
