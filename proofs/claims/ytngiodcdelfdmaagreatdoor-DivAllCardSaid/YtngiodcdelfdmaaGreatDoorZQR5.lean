import Derived.Test.YtngiodcdelfdmaaGreatDoorZGR5
namespace Go.Proofs.YtngiodcdelfdmaaGreatDoor.FP
set_option linter.unusedVariables false
set_option linter.unusedSimpArgs false
theorem cross_eq {N1 D1 N2 D2 : Nat} (h1 : 0 < D1) (h2 : 0 < D2) (h : N1 * D2 = N2 * D1) : N1 / D1 = N2 / D2 ∧ (N1 % D1 = 0 ↔ N2 % D2 = 0) := by
 obtain ⟨a1, a2⟩ := divmod_mono h1 h2 (Nat.le_of_eq h)
 obtain ⟨b1, b2⟩ := divmod_mono h2 h1 (Nat.le_of_eq h.symm)
 have hq := Nat.le_antisymm a1 b1
 have c1 := a2 hq
 have c2 := b2 hq.symm
 refine ⟨hq, fun hz => ?_, fun hz => ?_⟩
 ·rw [hz, Nat.zero_mul] at c2
  rcases Nat.mul_eq_zero.1 (Nat.le_zero.1 c2) with h | h
  ·exact h
  ·omega
 ·rw [hz, Nat.zero_mul] at c1
  rcases Nat.mul_eq_zero.1 (Nat.le_zero.1 c1) with h | h
  ·exact h
  ·omega
def divC (f m : Nat) (after neg : Bool) (c d : Nat) : Nat × Nat := roundC (fP f) (fE f) m after neg (val f c * 2 ^ fU f) (val f d)
theorem round_div {f m : Nat} {after neg : Bool} {c d n : Nat} (hf : f < 4) (h0 : 0 < c) (h1 : c < inf f) (h2 : 0 < d) (h3 : d < inf f)
  (hn : n / 2 ^ 100 = unSig f c * 2 ^ 128 / unSig f d) (hz : n % 2 ^ 100 = 0 ↔ unSig f c * 2 ^ 128 % unSig f d = 0) :
  roundE (fP f) (fE f) m after neg (unExp f c - unExp f d + 27) n = divC f m after neg c d := by
 have hv := un_val hf h0 h1
 have hw := un_val hf h2 h3
 have hr := un_exp hf h1
 have hr2 := un_exp hf h3
 obtain ⟨s1, s2⟩ := un_sig hf h0 h1
 obtain ⟨t1, t2⟩ := un_sig hf h2 h3
 obtain ⟨n1, n2, n3, n4, n5, n6, n7, n8, n9⟩ := fmtN hf
 have dpos : 0 < val f d := cval_pos (fP_ge hf) h2
 have zpos : 0 < unSig f d := Nat.lt_of_lt_of_le (two_pow_pos 127) t1
 unfold roundE divC
 generalize unExp f c = e at *
 generalize unExp f d = g at *
 generalize unSig f c = x at *
 generalize unSig f d = y at *
 generalize val f c = C at *
 generalize val f d = D at *
 have key : C * 2 ^ fU f * 2 ^ (128 - e + g - fU f : Int).toNat * y = x * 2 ^ 128 * (D * 2 ^ (e - g - 128 + fU f : Int).toNat) := by
  apply Nat.eq_of_mul_eq_mul_right (Nat.mul_pos (two_pow_pos (127 - e - fU f : Int).toNat) (two_pow_pos (g - 127 + fU f : Int).toNat))
  rw [show C * 2 ^ fU f * 2 ^ (128 - e + g - fU f : Int).toNat * y * (2 ^ (127 - e - fU f : Int).toNat * 2 ^ (g - 127 + fU f : Int).toNat) = C * 2 ^ (127 - e - fU f : Int).toNat * (y * 2 ^ (g - 127 + fU f : Int).toNat) * (2 ^ fU f * 2 ^ (128 - e + g - fU f : Int).toNat) by ac_rfl, ← hv, hw]
  rw [show x * 2 ^ (e - 127 + fU f : Int).toNat * (D * 2 ^ (127 - g - fU f : Int).toNat) * (2 ^ fU f * 2 ^ (128 - e + g - fU f : Int).toNat) = x * D * (2 ^ (e - 127 + fU f : Int).toNat * 2 ^ (127 - g - fU f : Int).toNat * 2 ^ fU f * 2 ^ (128 - e + g - fU f : Int).toNat) by ac_rfl]
  rw [show x * 2 ^ 128 * (D * 2 ^ (e - g - 128 + fU f : Int).toNat) * (2 ^ (127 - e - fU f : Int).toNat * 2 ^ (g - 127 + fU f : Int).toNat) = x * D * (2 ^ 128 * 2 ^ (e - g - 128 + fU f : Int).toNat * 2 ^ (127 - e - fU f : Int).toNat * 2 ^ (g - 127 + fU f : Int).toNat) by ac_rfl]
  rw [← Nat.pow_add, ← Nat.pow_add, ← Nat.pow_add, ← Nat.pow_add, ← Nat.pow_add, ← Nat.pow_add]
  congr 2
  omega
 have gpos : 0 < D * 2 ^ (e - g - 128 + fU f : Int).toNat := Nat.mul_pos dpos (two_pow_pos _)
 obtain ⟨k1, k2⟩ := cross_eq gpos zpos key
 have scale : roundC (fP f) (fE f) m after neg (C * 2 ^ fU f) D = roundC (fP f) (fE f) m after neg (C * 2 ^ fU f * 2 ^ (128 - e + g - fU f : Int).toNat) (D * 2 ^ (128 - e + g - fU f : Int).toNat) :=
  roundC_ratio n1 dpos (Nat.mul_pos dpos (two_pow_pos _)) (by ac_rfl)
 rw [scale]
 have q1 : n * 2 ^ (e - g + 27 - 255 + fE f + fP f - 2 : Int).toNat / 2 ^ (100 + (e - g + 27 - 255 + fE f + fP f - 2 : Int).toNat) = n / 2 ^ 100 := by
  rw [Nat.pow_add, Nat.mul_div_mul_right _ _ (two_pow_pos _)]
 have q2 : n * 2 ^ (e - g + 27 - 255 + fE f + fP f - 2 : Int).toNat % 2 ^ (100 + (e - g + 27 - 255 + fE f + fP f - 2 : Int).toNat) = 0 ↔ n % 2 ^ 100 = 0 := by
  rw [Nat.pow_add, Nat.mul_mod_mul_right]
  have := two_pow_pos (e - g + 27 - 255 + fE f + fP f - 2 : Int).toNat
  constructor
  ·intro h
   rcases Nat.mul_eq_zero.1 h with h | h
   ·exact h
   ·omega
  ·intro h; rw [h, Nat.zero_mul]
 refine roundC_agree (G1 := 2 ^ (100 + (e - g + 27 - 255 + fE f + fP f - 2 : Int).toNat)) (G2 := D * 2 ^ (e - g - 128 + fU f : Int).toNat) (a := (e - g - 128 + fU f : Int).toNat) (b := (128 - e + g - fU f : Int).toNat) n1 (two_pow_pos _) (Nat.mul_pos dpos (two_pow_pos _)) (two_pow_pos _) gpos ?_ (by ac_rfl) ?_ ?_ ?_
 ·rw [← Nat.pow_add, ← Nat.pow_add]
  congr 1
  unfold fU at *
  omega
 ·rw [q1, hn, k1]
 ·rw [q2, hz, k2]
 ·rw [q1, hn, Nat.le_div_iff_mul_le zpos]
  have p1 : 2 ^ (fP f + 1) ≤ 2 ^ 127 := Nat.pow_le_pow_right (by decide) (by omega)
  have p2 : 2 ^ (fP f + 1) * y ≤ 2 ^ 127 * 2 ^ 128 := Nat.mul_le_mul p1 (Nat.le_of_lt t2)
  exact Nat.le_trans p2 (Nat.mul_le_mul_right _ s1)
def cmpT (ea : Int) (sa : Nat) (eb : Int) (sb : Nat) : Int :=
 if sa / 2 ^ (max ea eb - ea).toNat < sb / 2 ^ (max ea eb - eb).toNat then -1
 else if sb / 2 ^ (max ea eb - eb).toNat < sa / 2 ^ (max ea eb - ea).toNat then 1
 else if sa % 2 ^ (max ea eb - ea).toNat ≠ 0 then 1 else if sb % 2 ^ (max ea eb - eb).toNat ≠ 0 then -1 else 0
theorem pow_split {a b L : Int} (h1 : b ≤ a) (h2 : L ≤ b) : 2 ^ (a - b).toNat * 2 ^ (b - L).toNat = 2 ^ (a - L).toNat := by rw [← Nat.pow_add]; congr 1; omega
def sgV (s t : Bool) (A B : Nat) : Nat := if s = t then A + B else if A < B then B - A else A - B
def sgS (s t : Bool) (A B : Nat) : Bool := if s = t then s else if A < B then t else s
def sgN (m : Nat) (s t : Bool) (A B : Nat) : Bool := if sgV s t A B = 0 then (if s = t then s else decide (m = 3)) else sgS s t A B
def resS (s t : Bool) (ea : Int) (sa : Nat) (eb : Int) (sb : Nat) : Bool := if s = t then s else if cmpT ea sa eb sb < 0 then t else s
def addN (f m : Nat) (s t : Bool) (c d : Nat) : Bool := sgN m s t (val f c) (val f d)
end Go.Proofs.YtngiodcdelfdmaaGreatDoor.FP
namespace Go.Proofs.YtngiodcdelfdmaaGreatDoor
set_option linter.unusedVariables false
set_option linter.unusedSimpArgs false
set_option maxRecDepth 100000
open Go.RowKit
def likeC (x y : Nat) : Bool := decide (x = y) && (decide (x = 3) || decide (x = 0))
def divS (f m : Nat) (after neg : Bool) (c d : Nat) : Nat × Nat :=
 if FP.clsC f c = 3 then (FP.inf f, 0) else if FP.clsC f d = 3 ∨ FP.clsC f c = 0 then (0, 0) else if FP.clsC f d = 0 then (FP.inf f, 2) else FP.divC f m after neg c d
def divR (f m : Nat) (after : Bool) (a b : Nat) : Nat × Nat :=
 if 4 ≤ clsF f a then (quN f a, nanFlag f a b) else if 4 ≤ clsF f b then (quN f b, nanFlag f a b)
 else if likeC (clsF f a) (clsF f b) = true then (dfl f, 1)
 else (FP.mk f (FP.sgn f a != FP.sgn f b) (divS f m after (FP.sgn f a != FP.sgn f b) (FP.cod f a) (FP.cod f b)).1, (divS f m after (FP.sgn f a != FP.sgn f b) (FP.cod f a) (FP.cod f b)).2)
end Go.Proofs.YtngiodcdelfdmaaGreatDoor
namespace Go.Proofs.YtngiodcdelfdmaaGreatDoor
set_option linter.unusedVariables false
set_option linter.unusedSimpArgs false
set_option maxRecDepth 100000
open Go.RowKit
end Go.Proofs.YtngiodcdelfdmaaGreatDoor
