import Derived.Test.YtngiodcdelfdmaaGreatDoorZGR6
namespace Go.Proofs.YtngiodcdelfdmaaGreatDoor.FP
set_option linter.unusedVariables false
set_option linter.unusedSimpArgs false
def isqGo (n : Nat) : Nat → Nat → Nat
 | 0, r => r
 | k + 1, r => isqGo n k (if (r + 2 ^ k) * (r + 2 ^ k) ≤ n then r + 2 ^ k else r)
def isq (n : Nat) : Nat := isqGo n 128 0
theorem isqGo_spec (n : Nat) : ∀ (k r : Nat), r * r ≤ n → n < (r + 2 ^ k) * (r + 2 ^ k) → isqGo n k r * isqGo n k r ≤ n ∧ n < (isqGo n k r + 1) * (isqGo n k r + 1)
 | 0, r, h1, h2 => ⟨h1, h2⟩
 | k + 1, r, h1, h2 => by
  unfold isqGo
  split
  ·rename_i h
   refine isqGo_spec n k _ h ?_
   rw [Nat.add_assoc, ← Nat.mul_two, ← Nat.pow_succ]; exact h2
  ·rename_i h
   exact isqGo_spec n k _ h1 (by omega)
theorem isq_spec {n : Nat} (h : n < 2 ^ 256) : isq n * isq n ≤ n ∧ n < (isq n + 1) * (isq n + 1) :=
 isqGo_spec n 128 0 (Nat.zero_le _) (by rw [Nat.zero_add, ← Nat.pow_add]; exact h)
theorem sq_le {a b : Nat} (h : a * a < b * b) : a < b := by
 apply Nat.lt_of_not_le; intro hle
 have := Nat.mul_le_mul hle hle
 omega
theorem isq_lt {n : Nat} (h : n < 2 ^ 256) : isq n < 2 ^ 128 := by
 apply sq_le
 rw [← Nat.pow_add]
 exact Nat.lt_of_le_of_lt (isq_spec h).1 h
theorem isq_ge {n k : Nat} (h : n < 2 ^ 256) (h2 : 2 ^ (2 * k) ≤ n) : 2 ^ k ≤ isq n := by
 apply Nat.le_of_lt_succ
 apply sq_le
 refine Nat.lt_of_le_of_lt ?_ (isq_spec h).2
 rw [← Nat.pow_add, show k + k = 2 * k by omega]; exact h2
def jamR (n : Nat) : Nat := isq n * 2 ^ 100 + if isq n * isq n = n then 0 else 1
def sqN (f c : Nat) : Nat := if (unExp f c - 255) % 2 = 0 then unSig f c * 2 ^ 128 else unSig f c * 2 ^ 127
def sqX (f c : Nat) : Int := if (unExp f c - 255) % 2 = 0 then (unExp f c - 255) / 2 else (unExp f c - 254) / 2
def sqrtC (f m : Nat) (after : Bool) (c : Nat) : Nat × Nat := roundE (fP f) (fE f) m after false (sqX f c + 155) (jamR (sqN f c))
theorem sqN_rng {f c : Nat} (hf : f < 4) (h0 : 0 < c) (h1 : c < inf f) : 2 ^ 254 ≤ sqN f c ∧ sqN f c < 2 ^ 256 := by
 obtain ⟨s1, s2⟩ := un_sig hf h0 h1
 unfold sqN
 generalize unSig f c = x at *
 have a1 := Nat.mul_le_mul_right (2 ^ 127) s1
 have a2 := Nat.mul_lt_mul_of_pos_right s2 (two_pow_pos 127)
 have a3 : x * 2 ^ 128 = x * 2 ^ 127 * 2 := by rw [Nat.mul_assoc]
 rw [← Nat.pow_add] at a1 a2
 split
 ·constructor
  ·rw [a3]; omega
  ·rw [a3, show (256 : Nat) = 255 + 1 from rfl, Nat.pow_succ]; omega
 ·exact ⟨a1, Nat.lt_trans a2 (by decide)⟩
def cmpT (ea : Int) (sa : Nat) (eb : Int) (sb : Nat) : Int :=
 if sa / 2 ^ (max ea eb - ea).toNat < sb / 2 ^ (max ea eb - eb).toNat then -1
 else if sb / 2 ^ (max ea eb - eb).toNat < sa / 2 ^ (max ea eb - ea).toNat then 1
 else if sa % 2 ^ (max ea eb - ea).toNat ≠ 0 then 1 else if sb % 2 ^ (max ea eb - eb).toNat ≠ 0 then -1 else 0
theorem pow_split {a b L : Int} (h1 : b ≤ a) (h2 : L ≤ b) : 2 ^ (a - b).toNat * 2 ^ (b - L).toNat = 2 ^ (a - L).toNat := by rw [← Nat.pow_add]; congr 1; omega
theorem at_num {f c : Nat} (hf : f < 4) (h0 : 0 < c) (h1 : c < inf f) : unSig f c * 2 ^ 128 * 2 ^ (unExp f c + 40000).toNat = val f c * 2 ^ (255 - fU f + 40000 : Int).toNat := by
 have hv := un_val hf h0 h1
 have hr := un_exp hf h1
 obtain ⟨n1, n2, n3, n4, n5, n6, n7, n8, n9⟩ := fmtN hf
 have hU : fU f ≤ 16500 := by unfold fU; omega
 generalize unExp f c = e at *
 generalize unSig f c = x at *
 generalize val f c = C at *
 apply Nat.eq_of_mul_eq_mul_right (two_pow_pos (127 - e - fU f : Int).toNat)
 rw [Nat.mul_right_comm C, ← hv, Nat.mul_assoc x, Nat.mul_assoc x, Nat.mul_assoc x, ← Nat.pow_add, ← Nat.pow_add, ← Nat.pow_add]
 congr 2
 omega
def sgV (s t : Bool) (A B : Nat) : Nat := if s = t then A + B else if A < B then B - A else A - B
def sgS (s t : Bool) (A B : Nat) : Bool := if s = t then s else if A < B then t else s
def sgN (m : Nat) (s t : Bool) (A B : Nat) : Bool := if sgV s t A B = 0 then (if s = t then s else decide (m = 3)) else sgS s t A B
def resS (s t : Bool) (ea : Int) (sa : Nat) (eb : Int) (sb : Nat) : Bool := if s = t then s else if cmpT ea sa eb sb < 0 then t else s
def addN (f m : Nat) (s t : Bool) (c d : Nat) : Bool := sgN m s t (val f c) (val f d)
theorem un_lo {f c : Nat} (hf : f < 4) (h0 : 0 < c) (h1 : c < inf f) : 2 - (fE f : Int) - fP f ≤ unExp f c ∧ unExp f c ≤ fE f := by
 obtain ⟨n1, n2, n3, n4, n5, n6, n7, n8, n9⟩ := fmtN hf
 unfold unExp
 by_cases h : c < 2 ^ (fP f - 1)
 ·rw [if_pos h]
  have := lenN_iff.2 h
  have := (lenN_lo (show c ≠ 0 by omega)).2.2
  omega
 ·rw [if_neg h]
  have : c / 2 ^ (fP f - 1) < 2 * fE f + 1 := by
   rw [Nat.div_lt_iff_lt_mul (two_pow_pos _)]; exact h1
  generalize c / 2 ^ (fP f - 1) = k at *
  omega
theorem fE_big {f : Nat} (hf : f < 4) : fP f + 4 ≤ fE f ∧ 15 ≤ fE f := by rcases f4 hf with rfl | rfl | rfl | rfl <;> decide
def rtN (f c : Nat) : Nat := jamR (sqN f c) * 2 ^ (sqX f c + 155 - 255 + fE f + fP f - 2).toNat
def rtD (f c : Nat) : Nat := 2 ^ (255 + 2 - (sqX f c + 155) - fE f - fP f).toNat
theorem sqrtC_eq (f m : Nat) (after : Bool) (c : Nat) : sqrtC f m after c = roundC (fP f) (fE f) m after false (rtN f c) (rtD f c) := rfl
theorem sqX_rng {f c : Nat} (hf : f < 4) (h0 : 0 < c) (h1 : c < inf f) : -126 - (fE f : Int) ≤ sqX f c ∧ sqX f c ≤ (fE f : Int) - 130 := by
 have := un_lo hf h0 h1
 have := fE_big hf
 unfold sqX
 split <;> omega
theorem sq_at {f c : Nat} (hf : f < 4) (h0 : 0 < c) (h1 : c < inf f) : sqN f c * 2 ^ (2 * sqX f c + 40255).toNat = val f c * 2 ^ (255 - fU f + 40000 : Int).toNat := by
 have ha := at_num hf h0 h1
 have hr := un_exp hf h1
 rw [← ha]
 unfold sqN sqX
 generalize unExp f c = e at *
 by_cases h : (e - 255) % 2 = 0
 ·rw [if_pos h, if_pos h]; congr 2; omega
 ·rw [if_neg h, if_neg h, Nat.mul_assoc, Nat.mul_assoc, ← Nat.pow_add, ← Nat.pow_add]; congr 2; omega
end Go.Proofs.YtngiodcdelfdmaaGreatDoor.FP
namespace Go.Proofs.YtngiodcdelfdmaaGreatDoor
set_option linter.unusedVariables false
set_option linter.unusedSimpArgs false
set_option maxRecDepth 100000
open Go.RowKit
end Go.Proofs.YtngiodcdelfdmaaGreatDoor
namespace Go.Proofs.YtngiodcdelfdmaaGreatDoor
set_option linter.unusedVariables false
set_option linter.unusedSimpArgs false
set_option maxRecDepth 100000
open Go.RowKit
end Go.Proofs.YtngiodcdelfdmaaGreatDoor
