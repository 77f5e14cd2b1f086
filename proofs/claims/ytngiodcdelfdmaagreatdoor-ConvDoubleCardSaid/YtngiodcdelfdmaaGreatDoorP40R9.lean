import Derived.Test.YtngiodcdelfdmaaGreatDoorRD2R9
import Derived.Test.YtngiodcdelfdmaaGreatDoorP39R9
import Derived.Test.YtngiodcdelfdmaaGreatDoorP32R9
import Derived.Test.YtngiodcdelfdmaaGreatDoorP30R9
namespace Go.Proofs.YtngiodcdelfdmaaGreatDoor
set_option linter.unusedVariables false
set_option linter.unusedSimpArgs false
set_option maxRecDepth 100000
open Go.RowKit
namespace FP
theorem un_uniq {t d sig : Nat} {e : Int} (ht : t < 4) (h0 : 0 < d) (h1 : d < inf t) (s1 : 2 ^ 127 ≤ sig) (s2 : sig < 2 ^ 128)
  (h : sig * 2 ^ (e - 127 + fU t).toNat = val t d * 2 ^ (127 - e - fU t).toNat) : e = unExp t d ∧ sig = unSig t d := by
 have hv := un_val ht h0 h1
 obtain ⟨r1, r2⟩ := un_sig ht h0 h1
 generalize unExp t d = g at *
 generalize unSig t d = z at *
 have key : sig * 2 ^ ((e - 127 + fU t).toNat + (127 - g - fU t).toNat) = z * 2 ^ ((g - 127 + fU t).toNat + (127 - e - fU t).toNat) := by
  rw [Nat.pow_add, Nat.pow_add, ← Nat.mul_assoc, ← Nat.mul_assoc, h, hv]; ac_rfl
 have far : ∀ (a b : Nat) (x y k : Nat), 2 ^ 127 ≤ b → a < 2 ^ 128 → x + k = y → a * 2 ^ x = b * 2 ^ y → k = 0 := by
  intro a b x y k hb ha hk he
  rw [← hk, Nat.pow_add, Nat.mul_comm (2 ^ x), ← Nat.mul_assoc] at he
  have he := Nat.eq_of_mul_eq_mul_right (two_pow_pos x) he
  apply Classical.byContradiction; intro hn
  have h2 : 2 ≤ 2 ^ k := by
   obtain ⟨j, rfl⟩ : ∃ j, k = j + 1 := ⟨k - 1, by omega⟩
   rw [Nat.pow_succ]; have := two_pow_pos j; omega
  have h3 : 2 ^ 127 * 2 ≤ b * 2 ^ k := Nat.mul_le_mul hb h2
  omega
 have heg : e = g := by
  rcases Int.lt_trichotomy e g with hlt | heq | hgt
  ·have := far sig z _ _ (g - e).toNat r1 s2 (by omega) key; omega
  ·exact heq
  ·have := far z sig _ _ (e - g).toNat s1 r2 (by omega) key.symm; omega
 refine ⟨heg, ?_⟩
 rw [heg] at key
 rw [show (g - 127 + (fU t : Int)).toNat + (127 - g - fU t).toNat = (g - 127 + fU t).toNat + (127 - g - fU t).toNat from rfl] at key
 exact Nat.eq_of_mul_eq_mul_right (two_pow_pos _) key
theorem un_conv {f t c d : Nat} (hf : f < 4) (ht : t < 4) (c0 : 0 < c) (c1 : c < inf f) (d0 : 0 < d) (d1 : d < inf t) (h : val f c * 2 ^ fU t = val t d * 2 ^ fU f) :
  unExp f c = unExp t d ∧ unSig f c = unSig t d := by
 have hv := un_val hf c0 c1
 obtain ⟨s1, s2⟩ := un_sig hf c0 c1
 refine un_uniq ht d0 d1 s1 s2 ?_
 generalize unExp f c = e at *
 generalize unSig f c = z at *
 apply Nat.eq_of_mul_eq_mul_right (Nat.mul_pos (two_pow_pos (fU f)) (two_pow_pos (e - 127 + fU f).toNat))
 rw [show z * 2 ^ (e - 127 + fU t).toNat * (2 ^ fU f * 2 ^ (e - 127 + fU f).toNat) = z * 2 ^ (e - 127 + fU f).toNat * (2 ^ (e - 127 + fU t).toNat * 2 ^ fU f) by ac_rfl, hv]
 rw [show val t d * 2 ^ (127 - e - fU t).toNat * (2 ^ fU f * 2 ^ (e - 127 + fU f).toNat) = val t d * 2 ^ fU f * (2 ^ (127 - e - fU t).toNat * 2 ^ (e - 127 + fU f).toNat) by ac_rfl, ← h]
 rw [show val f c * 2 ^ (127 - e - fU f).toNat * (2 ^ (e - 127 + fU t).toNat * 2 ^ fU f) = val f c * (2 ^ (127 - e - fU f).toNat * 2 ^ (e - 127 + fU t).toNat * 2 ^ fU f) by ac_rfl, show val f c * 2 ^ fU t * (2 ^ (127 - e - fU t).toNat * 2 ^ (e - 127 + fU f).toNat) = val f c * (2 ^ fU t * 2 ^ (127 - e - fU t).toNat * 2 ^ (e - 127 + fU f).toNat) by ac_rfl]
 rw [← Nat.pow_add, ← Nat.pow_add, ← Nat.pow_add, ← Nat.pow_add]
 congr 2
 omega
theorem mulC_wider {f c d x y m : Nat} {a n : Bool} (hf : f < 3) (hc : c < inf f) (hd : d < inf f) (ex : val f c * 2 ^ fU (f + 1) = val (f + 1) x * 2 ^ fU f) (ey : val f d * 2 ^ fU (f + 1) = val (f + 1) y * 2 ^ fU f) :
  ∃ z, z < inf (f + 1) ∧ mulC (f + 1) m a n x y = (z, 0) ∧ ∀ m' a' n', convC (f + 1) f m' a' n' z = mulC f m' a' n' c d := by
 obtain ⟨z, hz, e⟩ := mul_wide hf hc hd
 refine ⟨z, hz, ?_, fun m' a' n' => ?_⟩
 ·refine roundC_exact (fP_ge (by omega)) (two_pow_pos _) hz ?_
  apply Nat.eq_of_mul_eq_mul_right (Nat.mul_pos (two_pow_pos (fU f)) (two_pow_pos (fU f)))
  rw [show val (f + 1) x * val (f + 1) y * (2 ^ fU f * 2 ^ fU f) = (val (f + 1) x * 2 ^ fU f) * (val (f + 1) y * 2 ^ fU f) by ac_rfl, ← ex, ← ey]
  have : val (f + 1) z * 2 ^ fU (f + 1) * (2 ^ fU f * 2 ^ fU f) = val (f + 1) z * 2 ^ (fU f + fU f) * 2 ^ fU (f + 1) := by rw [Nat.pow_add]; ac_rfl
  rw [show cval (fP (f + 1)) z = val (f + 1) z from rfl, this, e]; ac_rfl
 ·refine roundC_ratio (fP_ge (by omega)) (two_pow_pos _) (two_pow_pos _) ?_
  rw [show val (f + 1) z * 2 ^ fU f * 2 ^ fU f = val (f + 1) z * 2 ^ (fU f + fU f) by rw [Nat.pow_add]; ac_rfl, e]
end FP
theorem k_conv_Conv {F F2 M T a1 a0 : Int} {φ ψ μ A : Nat} {τ : Bool} (hF : fN F = φ) (hφ : φ < 4) (hG : fN F2 = ψ) (hψ : ψ < 4) (hM : (u8 M).toNat = μ) (hM4 : u8 M ≤ 4) (hT : iNz T = τ) (hA : nB a1 a0 = A) : F_conv_Conv [F, F2, M, T, a1, a0] = [wd (convR φ ψ μ τ A).1 1, wd (convR φ ψ μ τ A).1 0, (((convR φ ψ μ τ A).2 : Nat) : Int)] := by
 rw [s_conv_Conv _ _ _ _ _ _ (by rw [hF]; exact hφ) (by rw [hG]; exact hψ) hM4, hF, hG, hM, hT, hA, oR_eq']
theorem conv_num {f t m b : Nat} {a : Bool} (h : clsF f b < 3) : convR f t m a b = (FP.mk t (FP.sgn f b) (FP.convC f t m a (FP.sgn f b) (FP.cod f b)).1, (FP.convC f t m a (FP.sgn f b) (FP.cod f b)).2) := by
 unfold convR
 rw [if_neg (by omega), if_neg (by omega)]
theorem conv_up {f b : Nat} (hf : f < 3) (h : clsF f b < 3) : ∃ x, x < FP.inf (f + 1) ∧ FP.val f (FP.cod f b) * 2 ^ FP.fU (f + 1) = FP.val (f + 1) x * 2 ^ FP.fU f ∧ convR f (f + 1) 0 false b = (FP.mk (f + 1) (FP.sgn f b) x, 0) := by
 have hf4 : f < 4 := by omega
 have hc := FP.clsC_fin.1 (show FP.clsC f (FP.cod f b) < 3 by rw [← clsF_cod hf4]; exact h)
 obtain ⟨x, hx, hv⟩ := FP.fits_wider (f := f) (t := f + 1) (by omega) (by omega) hc
 exact ⟨x, hx, hv, by rw [conv_num h, FP.convC_fits (by omega) hx hv]⟩
theorem mk_num {f c : Nat} (hf : f < 4) (s : Bool) (hc : c < FP.inf f) : clsF f (FP.mk f s c) < 3 ∧ FP.sgn f (FP.mk f s c) = s ∧ FP.cod f (FP.mk f s c) = c := by
 have hl := Nat.lt_trans hc (inf_lt hf)
 exact ⟨by rw [clsF_mk hf _ hl]; exact FP.clsC_fin.2 hc, FP.sgn_mk _ hl, FP.cod_mk _ hl⟩
theorem addN_up {f c d x y : Nat} (s t : Bool) (ex : FP.val f c * 2 ^ FP.fU (f + 1) = FP.val (f + 1) x * 2 ^ FP.fU f) (ey : FP.val f d * 2 ^ FP.fU (f + 1) = FP.val (f + 1) y * 2 ^ FP.fU f) : FP.addN (f + 1) 0 s t x y = FP.addN f 0 s t c d := by
 unfold FP.addN
 rw [← FP.sgN_scale 0 s t (FP.val (f + 1) x) (FP.val (f + 1) y) (FP.two_pow_pos (FP.fU f)), ← ex, ← ey, FP.sgN_scale 0 s t _ _ (FP.two_pow_pos _)]
theorem addR_both {f m a b : Nat} {t : Bool} (ha : clsF f a < 3) (hb : clsF f b < 3) : addR f m t a b = (FP.mk f (FP.addN f m (FP.sgn f a) (FP.sgn f b) (FP.cod f a) (FP.cod f b)) (FP.addC f m t (FP.sgn f a) (FP.sgn f b) (FP.cod f a) (FP.cod f b)).1, (FP.addC f m t (FP.sgn f a) (FP.sgn f b) (FP.cod f a) (FP.cod f b)).2) := by
 have hI : ¬ addI f a b = true := by
  unfold addI; simp only [Bool.and_eq_true, decide_eq_true_iff]; omega
 unfold addR
 rw [if_neg (by omega), if_neg (by omega), if_neg hI, if_neg (by omega), if_neg (by omega)]
theorem cd_add {f a b x y l m : Nat} {k1 k2 k3 k4 : Nat} (hf : f < 3) (ha : clsF f a < 3) (hb : clsF f b < 3) (ex : convR f (f + 1) 0 false a = (x, k1)) (ey : convR f (f + 1) 0 false b = (y, k2))
  (el : addR (f + 1) 0 false x y = (l, k3)) (em : addR f 0 false a b = (m, k4)) : ∃ k, convR (f + 1) f 0 false l = (m, k) := by
 obtain ⟨p, p1, p2, p3⟩ := conv_up hf ha
 obtain ⟨q, q1, q2, q3⟩ := conv_up hf hb
 have hc := FP.clsC_fin.1 (show FP.clsC f (FP.cod f a) < 3 by rw [← clsF_cod (by omega)]; exact ha)
 have hd := FP.clsC_fin.1 (show FP.clsC f (FP.cod f b) < 3 by rw [← clsF_cod (by omega)]; exact hb)
 obtain ⟨xa, xb, xc⟩ := mk_num (show f + 1 < 4 by omega) (FP.sgn f a) p1
 obtain ⟨ya, yb, yc⟩ := mk_num (show f + 1 < 4 by omega) (FP.sgn f b) q1
 have hx : x = FP.mk (f + 1) (FP.sgn f a) p := by rw [p3] at ex; exact (Prod.mk.inj ex).1.symm
 have hy : y = FP.mk (f + 1) (FP.sgn f b) q := by rw [q3] at ey; exact (Prod.mk.inj ey).1.symm
 rw [hx, hy, addR_both xa ya, xb, xc, yb, yc] at el
 rw [addR_both ha hb] at em
 obtain ⟨t1, t2⟩ := FP.add_twice (s := FP.sgn f a) (t := FP.sgn f b) (a := false) (n := FP.addN (f + 1) 0 (FP.sgn f a) (FP.sgn f b) p q) hf hc hd p2 q2
 obtain ⟨la, lb, lc⟩ := mk_num (show f + 1 < 4 by omega) (FP.addN (f + 1) 0 (FP.sgn f a) (FP.sgn f b) p q) t1
 have hl := (Prod.mk.inj el).1
 have hm := (Prod.mk.inj em).1
 rw [← hl, ← hm]
 refine ⟨(convR (f + 1) f 0 false (FP.mk (f + 1) (FP.addN (f + 1) 0 (FP.sgn f a) (FP.sgn f b) p q) (FP.addC (f + 1) 0 false (FP.sgn f a) (FP.sgn f b) p q).1)).2, Prod.ext ?_ rfl⟩
 rw [conv_num la, lb, lc]
 simp only []
 rw [t2, addN_up _ _ p2 q2]
theorem cd_mul {f a b x y l m : Nat} {k1 k2 k3 k4 : Nat} (hf : f < 3) (ha : clsF f a < 3) (hb : clsF f b < 3) (ex : convR f (f + 1) 0 false a = (x, k1)) (ey : convR f (f + 1) 0 false b = (y, k2))
  (el : mulR (f + 1) 0 false x y = (l, k3)) (em : mulR f 0 false a b = (m, k4)) : ∃ k, convR (f + 1) f 0 false l = (m, k) := by
 obtain ⟨p, p1, p2, p3⟩ := conv_up hf ha
 obtain ⟨q, q1, q2, q3⟩ := conv_up hf hb
 have hc := FP.clsC_fin.1 (show FP.clsC f (FP.cod f a) < 3 by rw [← clsF_cod (by omega)]; exact ha)
 have hd := FP.clsC_fin.1 (show FP.clsC f (FP.cod f b) < 3 by rw [← clsF_cod (by omega)]; exact hb)
 obtain ⟨xa, xb, xc⟩ := mk_num (show f + 1 < 4 by omega) (FP.sgn f a) p1
 obtain ⟨ya, yb, yc⟩ := mk_num (show f + 1 < 4 by omega) (FP.sgn f b) q1
 have hx : x = FP.mk (f + 1) (FP.sgn f a) p := by rw [p3] at ex; exact (Prod.mk.inj ex).1.symm
 have hy : y = FP.mk (f + 1) (FP.sgn f b) q := by rw [q3] at ey; exact (Prod.mk.inj ey).1.symm
 obtain ⟨z, z1, z2, z3⟩ := FP.mulC_wider (m := 0) (a := false) (n := FP.sgn f a != FP.sgn f b) hf hc hd p2 q2
 rw [hx, hy, mulR_fin (by omega) 0 false xa ya, xb, xc, yb, yc, z2] at el
 rw [mulR_fin (by omega) 0 false ha hb] at em
 obtain ⟨la, lb, lc⟩ := mk_num (show f + 1 < 4 by omega) (FP.sgn f a != FP.sgn f b) z1
 have hl := (Prod.mk.inj el).1
 have hm := (Prod.mk.inj em).1
 rw [← hl, ← hm]
 refine ⟨(convR (f + 1) f 0 false (FP.mk (f + 1) (FP.sgn f a != FP.sgn f b) z)).2, Prod.ext ?_ rfl⟩
 rw [conv_num la, lb, lc]
 simp only []
 rw [z3]
theorem cd_sqrt {f a x l m : Nat} {k1 k3 k4 : Nat} (hf : f < 3) (ha : clsF f a < 3) (ex : convR f (f + 1) 0 false a = (x, k1))
  (el : sqrtR (f + 1) 0 false x = (l, k3)) (em : sqrtR f 0 false a = (m, k4)) (h0 : ¬ clsF f m = 0) (h4 : ¬ 4 ≤ clsF f m) : ∃ k, convR (f + 1) f 0 false l = (m, k) := by
 have hf4 : f < 4 := by omega
 obtain ⟨p, p1, p2, p3⟩ := conv_up hf ha
 have hc := FP.clsC_fin.1 (show FP.clsC f (FP.cod f a) < 3 by rw [← clsF_cod (by omega)]; exact ha)
 obtain ⟨xa, xb, xc⟩ := mk_num (show f + 1 < 4 by omega) (FP.sgn f a) p1
 have hx : x = FP.mk (f + 1) (FP.sgn f a) p := by rw [p3] at ex; exact (Prod.mk.inj ex).1.symm
 unfold sqrtR at em
 rw [if_neg (by omega)] at em
 split at em
 ·exfalso; have := (Prod.mk.inj em).1; rw [← this, clsF_dfl hf4] at h4; omega
 ·rename_i hs
  split at em
  ·exfalso; have := (Prod.mk.inj em).1; rw [← this, clsF_mk hf4 _ (FP.two_pow_pos _)] at h0; exact h0 rfl
  ·rename_i hz
   rw [if_neg (by omega)] at em
   have hs' : FP.sgn f a = false := by
    cases h : FP.sgn f a with
    | false => rfl
    | true => exact absurd ⟨h, hz⟩ hs
   have c0 : 0 < FP.cod f a := by
    apply Classical.byContradiction; intro h
    apply hz; rw [clsF_cod hf4]; unfold FP.clsC; rw [if_pos (by omega)]
   have x0 : 0 < p := by
    apply Classical.byContradiction; intro h
    have hp0 : p = 0 := by omega
    subst hp0
    have hv0 : FP.val (f + 1) 0 = 0 := by unfold FP.val; exact FP.cval_zero _
    have := FP.cval_pos (FP.fP_ge hf4) c0
    rw [hv0, Nat.zero_mul] at p2
    have := Nat.mul_pos (show 0 < FP.val f (FP.cod f a) from this) (FP.two_pow_pos (FP.fU (f + 1)))
    omega
   obtain ⟨hE, hS⟩ := FP.un_conv hf4 (show f + 1 < 4 by omega) c0 hc x0 p1 p2
   obtain ⟨t1, t2⟩ := FP.sqrt_twice (a := false) (n := false) hf c0 hc x0 p1 hE hS
   obtain ⟨la, lb, lc⟩ := mk_num (show f + 1 < 4 by omega) false t1
   have hxz : ¬ clsF (f + 1) x = 0 := by
    rw [hx, clsF_mk (by omega) _ (Nat.lt_trans p1 (inf_lt (by omega)))]
    unfold FP.clsC; rw [if_neg (by omega)]
    split
    ·decide
    ·first | decide | (rw [if_pos p1]; decide)
   unfold sqrtR at el
   rw [← hx] at xa xb xc
   rw [if_neg (by omega), xb, hs', if_neg (by simp), if_neg hxz, if_neg (by omega), xc] at el
   have hl := (Prod.mk.inj el).1
   have hm := (Prod.mk.inj em).1
   rw [← hl, ← hm]
   refine ⟨(convR (f + 1) f 0 false (FP.mk (f + 1) false (FP.sqrtC (f + 1) 0 false p).1)).2, Prod.ext ?_ rfl⟩
   rw [conv_num la, lb, lc]
   simp only []
   rw [t2]
end Go.Proofs.YtngiodcdelfdmaaGreatDoor
