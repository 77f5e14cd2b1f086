import Derived.Test.YtngiodcdelfdmaaGreatDoorP34R9
import Derived.Test.YtngiodcdelfdmaaGreatDoorP32R9
import Derived.Test.YtngiodcdelfdmaaGreatDoorP29R9
import Derived.Test.YtngiodcdelfdmaaGreatDoorZQR9
import Derived.Test.YtngiodcdelfdmaaGreatDoorP29aR9
namespace Go.Proofs.YtngiodcdelfdmaaGreatDoor
set_option linter.unusedVariables false
set_option linter.unusedSimpArgs false
set_option maxRecDepth 100000
open Go.RowKit
theorem divR_plain {f : Nat} (hf : f < 4) (m : Nat) (t : Bool) {a b : Nat} (ha : clsF f a = 1 ∨ clsF f a = 2) (hb : clsF f b = 1 ∨ clsF f b = 2) :
  divR f m t a b = (FP.mk f (FP.sgn f a != FP.sgn f b) (FP.divC f m t (FP.sgn f a != FP.sgn f b) (FP.cod f a) (FP.cod f b)).1, (FP.divC f m t (FP.sgn f a != FP.sgn f b) (FP.cod f a) (FP.cod f b)).2) := by
 have ca := clsF_cod hf a
 have cb := clsF_cod hf b
 rw [divR_S m t (by omega) (by omega), if_neg (by unfold likeC; simp; omega)]
 unfold divS
 rw [← ca, ← cb, if_neg (by omega), if_neg (by omega), if_neg (by omega)]
theorem plain_cod {f : Nat} (hf : f < 4) {a : Nat} (ha : clsF f a = 1 ∨ clsF f a = 2) : 0 < FP.cod f a ∧ FP.cod f a < FP.inf f := by
 rw [clsF_cod hf] at ha
 refine ⟨Nat.pos_of_ne_zero fun h => ?_, FP.clsC_fin.1 (by omega)⟩
 have := (clsC_zero_iff (f := f)).2 h
 omega
theorem mulR_fin {f : Nat} (hf : f < 4) (m : Nat) (t : Bool) {a b : Nat} (ha : clsF f a < 3) (hb : clsF f b < 3) :
  mulR f m t a b = (FP.mk f (FP.sgn f a != FP.sgn f b) (FP.mulC f m t (FP.sgn f a != FP.sgn f b) (FP.cod f a) (FP.cod f b)).1, (FP.mulC f m t (FP.sgn f a != FP.sgn f b) (FP.cod f a) (FP.cod f b)).2) := by
 unfold mulR
 rw [if_neg (by omega), if_neg (by omega), if_neg (by unfold badC; simp; omega), if_neg (by omega)]
theorem fmaR_fin {f : Nat} (m : Nat) (t : Bool) {a b c : Nat} (ha : clsF f a < 3) (hb : clsF f b < 3) (hc : clsF f c < 3) :
  fmaR f m t a b c = (FP.mk f (FP.fmaN f m (FP.sgn f a != FP.sgn f b) (FP.sgn f c) (FP.cod f a) (FP.cod f b) (FP.cod f c)) (FP.fmaC f m t (FP.sgn f a != FP.sgn f b) (FP.sgn f c) (FP.cod f a) (FP.cod f b) (FP.cod f c)).1, (FP.fmaC f m t (FP.sgn f a != FP.sgn f b) (FP.sgn f c) (FP.cod f a) (FP.cod f b) (FP.cod f c)).2) := by
 have hI : fmaI f a b c = false := by
  unfold fmaI infAB badC
  rw [Bool.or_eq_false_iff]
  exact ⟨by simp; omega, by simp; omega⟩
 have hiAB : infAB f a b = false := by unfold infAB; simp; omega
 rw [fmaR_S m t (by omega) (by omega) (by omega), if_neg (by rw [hI]; exact Bool.false_ne_true)]
 unfold fmaSg fmaSc
 rw [hiAB, if_neg Bool.false_ne_true, if_neg (by omega), if_neg Bool.false_ne_true, if_neg (by omega)]
theorem bne_back (s t : Bool) : ((s != t) != t) = s := by cases s <;> cases t <;> rfl
theorem bne_turn (s t : Bool) : ((!(s != t)) != t) = !s := by cases s <;> cases t <;> rfl
theorem div_back {f : Nat} (hf : f < 4) {a b q : Nat} (ha : clsF f a = 1 ∨ clsF f a = 2) (hb : clsF f b = 1 ∨ clsF f b = 2) (h : divR f 4 false a b = (q, 0)) : mulR f 4 false q b = (a % 2 ^ FP.fW f, 0) := by
 obtain ⟨a0, a1⟩ := plain_cod hf ha
 obtain ⟨b0, b1⟩ := plain_cod hf hb
 rw [divR_plain hf 4 false ha hb] at h
 have h2 := congrArg Prod.snd h
 have h1 := congrArg Prod.fst h
 simp only at h1 h2
 unfold FP.divC at h2 h1
 obtain ⟨c, hc, hv⟩ := FP.roundC_flags (FP.fP_ge hf) (FP.cval_pos (FP.fP_ge hf) b0) h2
 rw [FP.roundC_exact (FP.fP_ge hf) (FP.cval_pos (FP.fP_ge hf) b0) hc hv] at h1
 simp only at h1
 have cl := Nat.lt_trans hc (inf_lt hf)
 have q1 : FP.cod f q = c := by rw [← h1]; exact FP.cod_mk _ cl
 have q2 : FP.sgn f q = (FP.sgn f a != FP.sgn f b) := by rw [← h1]; exact FP.sgn_mk _ cl
 have q3 : clsF f q < 3 := by rw [clsF_cod hf, q1]; exact FP.clsC_fin.2 hc
 rw [mulR_fin hf 4 false q3 (by omega), q1, q2, bne_back]
 have hm : FP.mulC f 4 false (FP.sgn f a) c (FP.cod f b) = (FP.cod f a, 0) := by
  unfold FP.mulC
  exact FP.roundC_exact (FP.fP_ge hf) (FP.two_pow_pos _) a1 hv.symm
 rw [hm, FP.mk_cut hf]
theorem sgN_ne (m : Nat) (s : Bool) {A B : Nat} : (A < B → FP.sgN m (!s) s A B = s) ∧ (B < A → FP.sgN m (!s) s A B = !s) := by
 have hne : ¬ (!s) = s := by cases s <;> decide
 unfold FP.sgN FP.sgV FP.sgS
 simp only [if_neg hne]
 constructor
 ·intro h; rw [if_pos h, if_neg (by omega), if_pos h]
 ·intro h; simp only [if_neg (show ¬ A < B by omega), if_neg (show ¬ A - B = 0 by omega)]
theorem div_rest {f : Nat} (hf : f < 4) {a b q k : Nat} (ha : clsF f a = 1 ∨ clsF f a = 2) (hb : clsF f b = 1 ∨ clsF f b = 2) (h : divR f 4 false a b = (q, k)) (hq : clsF f q = 2) (hk : k = 16) :
  q < 2 ^ FP.fW f ∧ (∃ e g, e ≤ FP.inf f ∧ fmaR f 1 false (turnN f q) b a = (FP.mk f (FP.sgn f a) e, g)) ∧ (clsF f (q + 1) < 3 → ∃ e g, e ≤ FP.inf f ∧ fmaR f 1 false (turnN f (q + 1)) b a = (FP.mk f (!(FP.sgn f a)) e, g)) := by
 obtain ⟨a0, a1⟩ := plain_cod hf ha
 obtain ⟨b0, b1⟩ := plain_cod hf hb
 rw [divR_plain hf 4 false ha hb] at h
 generalize hs : (FP.sgn f a != FP.sgn f b) = s at h
 obtain ⟨q', k', hC⟩ : ∃ q' k', FP.divC f 4 false s (FP.cod f a) (FP.cod f b) = (q', k') := ⟨_, _, rfl⟩
 rw [hC] at h
 have e1 : FP.mk f s q' = q := congrArg Prod.fst h
 have e2 : k' = k := congrArg Prod.snd h
 have ql' : q' ≤ FP.inf f := by
  have : (FP.divC f 4 false s (FP.cod f a) (FP.cod f b)).1 ≤ FP.inf f := FP.roundC_le _ _ _ _ _ _ _
  rw [hC] at this; exact this
 have ql : q' < 2 ^ (FP.fW f - 1) := Nat.lt_of_le_of_lt ql' (inf_lt hf)
 have qi : q' < FP.inf f := by
  rw [← e1, clsF_mk hf _ ql] at hq; exact FP.clsC_fin.1 (by omega)
 have ql2 : q' + 1 < 2 ^ (FP.fW f - 1) := Nat.lt_of_le_of_lt qi (inf_lt hf)
 have q1 : FP.cod f q = q' := by rw [← e1]; exact FP.cod_mk _ ql
 have q2 : FP.sgn f q = s := by rw [← e1]; exact FP.sgn_mk _ ql
 have n0 : q + 1 = FP.mk f s (q' + 1) := by rw [← e1]; unfold FP.mk; omega
 have n1 : FP.cod f (q + 1) = q' + 1 := by rw [n0]; exact FP.cod_mk _ ql2
 have n2 : FP.sgn f (q + 1) = s := by rw [n0]; exact FP.sgn_mk _ ql2
 have bp := FP.cval_pos (FP.fP_ge hf) b0
 obtain ⟨c1, c2⟩ := FP.roundC_cut (FP.fP_ge hf) bp (show FP.roundC (FP.fP f) (FP.fE f) 4 false s (FP.val f (FP.cod f a) * 2 ^ FP.fU f) (FP.val f (FP.cod f b)) = (q', k') from hC) (by omega)
 have c3 : ¬ FP.val f (FP.cod f a) * 2 ^ FP.fU f = FP.val f q' * FP.val f (FP.cod f b) := fun h0 => by
  have := FP.roundC_exact (emax := FP.fE f) (m := 4) (after := false) (neg := s) (FP.fP_ge hf) bp qi h0
  have h3 : FP.divC f 4 false s (FP.cod f a) (FP.cod f b) = (q', 0) := this
  rw [hC] at h3
  have := congrArg Prod.snd h3
  simp only at this
  omega
 have c1' : FP.val f q' * FP.val f (FP.cod f b) < FP.val f (FP.cod f a) * 2 ^ FP.fU f := Nat.lt_of_le_of_ne c1 (fun h0 => c3 h0.symm)
 have c2' : FP.val f (FP.cod f a) * 2 ^ FP.fU f < FP.val f (q' + 1) * FP.val f (FP.cod f b) := c2
 refine ⟨by rw [← e1]; exact FP.mk_lt hf _ ql, ?_, fun hfin => ?_⟩
 ·have tc : clsF f (turnN f q) < 3 := by rw [clsF_turn]; omega
  have t1 : FP.cod f (turnN f q) = q' := by rw [cod_turn hf, q1]
  have t2 : (FP.sgn f (turnN f q) != FP.sgn f b) = !(FP.sgn f a) := by rw [sgn_turn hf, q2, ← hs]; exact bne_turn _ _
  rw [fmaR_fin 1 false tc (by omega) (by omega), t1, t2]
  have hN : FP.fmaN f 1 (!(FP.sgn f a)) (FP.sgn f a) q' (FP.cod f b) (FP.cod f a) = FP.sgn f a := by
   exact (sgN_ne 1 (FP.sgn f a)).1 c1'
  rw [hN]
  exact ⟨_, _, FP.roundC_le _ _ _ _ _ _ _, rfl⟩
 ·have tc : clsF f (turnN f (q + 1)) < 3 := by rw [clsF_turn]; exact hfin
  have t1 : FP.cod f (turnN f (q + 1)) = q' + 1 := by rw [cod_turn hf, n1]
  have t2 : (FP.sgn f (turnN f (q + 1)) != FP.sgn f b) = !(FP.sgn f a) := by rw [sgn_turn hf, n2, ← hs]; exact bne_turn _ _
  rw [fmaR_fin 1 false tc (by omega) (by omega), t1, t2]
  have hN : FP.fmaN f 1 (!(FP.sgn f a)) (FP.sgn f a) (q' + 1) (FP.cod f b) (FP.cod f a) = !(FP.sgn f a) := by
   exact (sgN_ne 1 (FP.sgn f a)).2 c2'
  rw [hN]
  exact ⟨_, _, FP.roundC_le _ _ _ _ _ _ _, rfl⟩
end Go.Proofs.YtngiodcdelfdmaaGreatDoor
