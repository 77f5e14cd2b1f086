import Derived.Test.YtngiodcdelfdmaaGreatDoorZBR6
import Derived.Test.YtngiodcdelfdmaaGreatDoorZDR6
import Derived.Test.YtngiodcdelfdmaaGreatDoorZGR6
import Derived.Deep.QuietTactic
import Derived.BigQuiet
import Derived.Laws.OwnMore
namespace Go.Proofs.YtngiodcdelfdmaaGreatDoor
set_option linter.unusedVariables false
set_option linter.unusedSimpArgs false
open Go.RowKit
def B32 : Nat := 4294967296
theorem B32_pos : 0 < B32 := by decide
theorem B32_pow : B32 = 2 ^ 32 := by decide
theorem B32_pp (k : Nat) : 0 < B32 ^ k := Nat.pow_pos B32_pos
def dg (x j : Nat) : Nat := x / B32 ^ j % B32
def dV (x j : Nat) : Value := .int .u32 (Int.ofNat (dg x j))
theorem dg_lt (x j : Nat) : dg x j < B32 := Nat.mod_lt _ B32_pos
theorem dg_zero (x : Nat) : dg x 0 = x % B32 := by unfold dg; rw [Nat.pow_zero, Nat.div_one]
theorem dg_succ (x j : Nat) : dg x (j + 1) = dg (x / B32) j := by unfold dg; rw [Nat.pow_succ, Nat.mul_comm, Nat.div_div_eq_div_mul]
theorem dg_big {x j : Nat} (h : x < B32 ^ j) : dg x j = 0 := by unfold dg; rw [Nat.div_eq_of_lt h]; rfl
theorem dg_mono {x j k : Nat} (h : x < B32 ^ j) (hk : j ≤ k) : dg x k = 0 := dg_big (Nat.lt_of_lt_of_le h (Nat.pow_le_pow_right B32_pos hk))
theorem low_dg (x k : Nat) : x % B32 ^ (k + 1) = x % B32 ^ k + B32 ^ k * dg x k := by
 unfold dg; rw [Nat.pow_succ, Nat.mod_mul]
def raw (k x : Nat) : List Nat := (List.range k).map (dg x)
def rawV (k x : Nat) : List Value := (List.range k).map (dV x)
theorem rawV_len (k x : Nat) : (rawV k x).length = k := by simp [rawV]
theorem rawV_get {k x j : Nat} (h : j < k) : (rawV k x)[j]? = some (dV x j) := by simp [rawV, h]
theorem rawV_succ (k x : Nat) : rawV (k + 1) x = rawV k x ++ [dV x k] := by simp [rawV, List.range_succ]
theorem map_shift (f g : Nat → Nat) (h : ∀ j, f (j + 1) = g j) : ∀ k, (List.range (k + 1)).map f = f 0 :: (List.range k).map g
 | 0 => rfl
 | k + 1 => by rw [List.range_succ, List.map_append, map_shift f g h k, List.range_succ (n := k), List.map_append, List.map_singleton, List.map_singleton, h k]; rfl
theorem raw_succ (k x : Nat) : raw (k + 1) x = dg x 0 :: raw k (x / B32) := map_shift (dg x) (dg (x / B32)) (dg_succ x) k
theorem digF_step (f m : Nat) : digF (f + 1) (m + 1) = (m + 1) % 4294967296 :: digF f ((m + 1) / 4294967296) := rfl
theorem div_small (m : Nat) : (m + 1) / 4294967296 ≤ m := Nat.le_of_lt_succ (Nat.div_lt_self (Nat.succ_pos m) (by decide))
theorem digF_zero (f : Nat) : digF f 0 = [] := by cases f <;> rfl
theorem digF_eq : ∀ (N f g n : Nat), n ≤ N → n ≤ f → n ≤ g → digF f n = digF g n
 | N, f, g, 0, _, _, _ => by rw [digF_zero, digF_zero]
 | 0, f, g, m + 1, h, _, _ => absurd h (by omega)
 | N + 1, 0, g, m + 1, _, h, _ => absurd h (by omega)
 | N + 1, f + 1, 0, m + 1, _, _, h => absurd h (by omega)
 | N + 1, f + 1, g + 1, m + 1, h1, h2, h3 => by
  have hd := div_small m
  rw [digF_step, digF_step]
  generalize (m + 1) / 4294967296 = q at hd ⊢
  rw [digF_eq N f g q (by omega) (by omega) (by omega)]
theorem digF_fuel (f n : Nat) (h : n ≤ f) : digF f n = digF n n := digF_eq n f n n (Nat.le_refl _) h (Nat.le_refl _)
theorem digN_pos {n : Nat} (h : 0 < n) : digN n = n % B32 :: digN (n / B32) := by
 cases n with
 | zero => omega
 | succ m =>
  have hd := div_small m
  show digF (m + 1) (m + 1) = (m + 1) % 4294967296 :: digF ((m + 1) / 4294967296) ((m + 1) / 4294967296)
  rw [digF_step]
  generalize (m + 1) / 4294967296 = q at hd ⊢
  rw [digF_fuel m q hd]
theorem dlenN_zero : dlenN 0 = 0 := rfl
theorem dlenN_pos {n : Nat} (h : 0 < n) : dlenN n = dlenN (n / B32) + 1 := by unfold dlenN; rw [digN_pos h]; rfl
theorem digN_raw (n : Nat) : digN n = raw (dlenN n) n := by
 induction n using Nat.strongRecOn with
 | _ n ih =>
  rcases Nat.eq_zero_or_pos n with rfl | h
  ·rfl
  ·rw [digN_pos h, dlenN_pos h, raw_succ, dg_zero, ← ih _ (Nat.div_lt_self h (by decide))]
theorem digV_raw (n : Nat) : digV n = rawV (dlenN n) n := by
 unfold digV rawV
 rw [digN_raw, raw, List.map_map]
 rfl
theorem dlenN_le {n k : Nat} : n < B32 ^ k ↔ dlenN n ≤ k := by
 induction k generalizing n with
 | zero =>
  rw [Nat.pow_zero]
  constructor
  ·intro h; have : n = 0 := by omega
   subst this; exact Nat.le_refl _
  ·intro h
   rcases Nat.eq_zero_or_pos n with rfl | h1
   ·decide
   ·rw [dlenN_pos h1] at h; omega
 | succ k ih =>
  rcases Nat.eq_zero_or_pos n with rfl | h1
  ·rw [dlenN_zero]; exact ⟨fun _ => Nat.zero_le _, fun _ => B32_pp _⟩
  ·rw [dlenN_pos h1, Nat.add_le_add_iff_right, ← ih, Nat.pow_succ, Nat.div_lt_iff_lt_mul B32_pos]
theorem lt_dlen (n : Nat) : n < B32 ^ dlenN n := dlenN_le.2 (Nat.le_refl _)
theorem dlen_ge {n k : Nat} (h : k < dlenN n) : B32 ^ k ≤ n := by
 apply Nat.le_of_not_lt
 intro h2
 have := dlenN_le.1 h2; omega
theorem dg_top {n : Nat} (h : 0 < n) : dg n (dlenN n - 1) ≠ 0 := by
 have h1 : 0 < dlenN n := by rw [dlenN_pos h]; omega
 have h2 := dlen_ge (n := n) (k := dlenN n - 1) (by omega)
 have h3 := lt_dlen n
 have h4 : B32 ^ dlenN n = B32 ^ (dlenN n - 1) * B32 := by rw [← Nat.pow_succ]; congr 1; omega
 unfold dg
 have h5 : n / B32 ^ (dlenN n - 1) < B32 := by rw [Nat.div_lt_iff_lt_mul (B32_pp _), Nat.mul_comm, ← h4]; exact h3
 rw [Nat.mod_eq_of_lt h5]
 have := Nat.div_pos h2 (B32_pp _)
 omega
theorem dlen_of {n k : Nat} (h : n < B32 ^ (k + 1)) (hd : dg n k ≠ 0) : dlenN n = k + 1 := by
 have h1 := dlenN_le.1 h
 by_cases h2 : dlenN n ≤ k
 ·exact absurd (dg_big (dlenN_le.2 h2)) hd
 ·omega
theorem lt_drop {n k : Nat} (h : n < B32 ^ (k + 1)) (hd : dg n k = 0) : n < B32 ^ k := by
 have h1 := low_dg n k
 rw [hd, Nat.mul_zero, Nat.add_zero, Nat.mod_eq_of_lt h] at h1
 rw [h1]; exact Nat.mod_lt _ (B32_pp _)
theorem dlen_zero_iff {n : Nat} : dlenN n = 0 ↔ n = 0 := by
 constructor
 ·intro h
  rcases Nat.eq_zero_or_pos n with h1 | h1
  ·exact h1
  ·rw [dlenN_pos h1] at h; omega
 ·rintro rfl; rfl
def RdX (w : World) (v : Value) (k x : Nat) : Prop := Reads w v k (rawV k x)
theorem RdX.nat {w : World} {v : Value} {n : Nat} (h : Reads w v (dlenN n) (digV n)) : RdX w v (dlenN n) n := by unfold RdX; rw [← digV_raw]; exact h
theorem RdX.to {w : World} {v : Value} {n k : Nat} (h : RdX w v k n) (hk : k = dlenN n) : Reads w v (dlenN n) (digV n) := by subst hk; rw [digV_raw]; exact h
theorem RdX.nil (w : World) (x : Nat) : RdX w (.slice none 0 0) 0 x := .inl ⟨rfl, rfl, rfl⟩
theorem RdX.pos {w : World} {v : Value} {k x : Nat} (h : RdX w v k x) (hk : 0 < k) : ∃ b off cap, v = .slice (some ⟨b, off, none⟩) k cap ∧ b < w.heap.size ∧ ∀ j, j < k → w.cell? ⟨b, off + j, none⟩ = some (dV x j) := by
 rcases h with ⟨_, h1, _⟩ | ⟨b, off, cap, h1, h2, h3⟩
 ·omega
 ·exact ⟨b, off, cap, h1, h2, fun j hj => h3 j _ (rawV_get hj)⟩
theorem RdX.any {w : World} {v : Value} {k x : Nat} (h : RdX w v k x) : ∃ ad cap, v = .slice ad k cap ∧ (0 < k → ∃ b off, ad = some ⟨b, off, none⟩ ∧ b < w.heap.size ∧ ∀ j, j < k → w.cell? ⟨b, off + j, none⟩ = some (dV x j)) := by
 rcases h with ⟨h0, h1, _⟩ | ⟨b, off, cap, h1, h2, h3⟩
 ·subst h1; exact ⟨none, 0, h0, fun h => absurd h (by omega)⟩
 ·exact ⟨_, cap, h1, fun _ => ⟨b, off, rfl, h2, fun j hj => h3 j _ (rawV_get hj)⟩⟩
theorem RdX.bel {A C : World} {v : Value} {k x : Nat} (h : RdX A v k x) (hb : Bel A C) : RdX C v k x :=
 h.same (Below.size hb) fun b _ hlt => Below.block hb b hlt
theorem RdX.cut {w : World} {b off k k' cap x : Nat} (h : RdX w (.slice (some ⟨b, off, none⟩) k cap) k x) (hk : k' ≤ k) (hb : b < w.heap.size) (cap' : Nat) : RdX w (.slice (some ⟨b, off, none⟩) k' cap') k' x := by
 refine .inr ⟨b, off, cap', rfl, hb, fun j y hj => ?_⟩
 have hlt : j < k' := by have := (List.getElem?_eq_some_iff.1 hj).1; rwa [rawV_len] at this
 rw [rawV_get hlt] at hj; cases hj
 rcases h with ⟨h0, _⟩ | ⟨b', off', cap2, h1, h2, h3⟩
 ·cases h0
 ·cases h1; exact h3 j _ (rawV_get (by omega))
theorem rdx_of_own {w : World} {base e : Nat} {v : Value} {k x : Nat} (h : w.ownsRow base e 1 v k (rawV k x)) : RdX w v k x := by
 rcases h.2 with ⟨rfl, rfl⟩ | ⟨g, cap, cur, rfl, _, hg, _⟩
 ·exact RdX.nil _ _
 ·refine .inr ⟨g, 0, cap, rfl, (Array.getElem?_eq_some_iff.1 hg).1, fun j y hj => ?_⟩
  have hlt : j < k := by have := (List.getElem?_eq_some_iff.1 hj).1; rwa [rawV_len] at this
  rw [Nat.zero_add, World.ownsRow.cellAt h j (by omega)]; exact hj
theorem cut_step {S k y : Nat} : (S + B32 ^ k * y) / B32 ^ (k + 1) = (S / B32 ^ k + y) / B32 := by
 rw [Nat.pow_succ, ← Nat.div_div_eq_div_mul, Nat.add_mul_div_left _ _ (B32_pp k)]
theorem cut_dg {x S k y : Nat} (h : x % B32 ^ (k + 1) = (S + B32 ^ k * y) % B32 ^ (k + 1)) : (S / B32 ^ k + y) % B32 = dg x k := by
 unfold dg
 rw [← Nat.mod_mul_right_div_self, ← Nat.pow_succ, h, Nat.pow_succ, Nat.mod_mul_right_div_self, Nat.add_mul_div_left _ _ (B32_pp k)]
def cyA (a b k : Nat) : Nat := (a % B32 ^ k + b % B32 ^ k) / B32 ^ k
theorem cyA_zero (a b : Nat) : cyA a b 0 = 0 := by unfold cyA; rw [Nat.pow_zero, Nat.mod_one, Nat.mod_one]
theorem cyA_le (a b k : Nat) : cyA a b k ≤ 1 := by
 have h1 := Nat.mod_lt a (B32_pp k)
 have h2 := Nat.mod_lt b (B32_pp k)
 have h3 : cyA a b k < 2 := by unfold cyA; rw [Nat.div_lt_iff_lt_mul (B32_pp k)]; omega
 omega
theorem cyA_sum (a b k : Nat) : a % B32 ^ (k + 1) + b % B32 ^ (k + 1) = (a % B32 ^ k + b % B32 ^ k) + B32 ^ k * (dg a k + dg b k) := by
 rw [low_dg, low_dg, Nat.mul_add]; omega
theorem cyA_succ (a b k : Nat) : (cyA a b k + dg a k + dg b k) / B32 = cyA a b (k + 1) := by
 unfold cyA; rw [cyA_sum, cut_step, Nat.add_assoc]
theorem cyA_dg (a b k : Nat) : (cyA a b k + dg a k + dg b k) % B32 = dg (a + b) k := by
 unfold cyA; rw [Nat.add_assoc]; apply cut_dg; rw [← cyA_sum]; exact Nat.add_mod _ _ _
theorem cyA_end {a b k : Nat} (ha : a < B32 ^ k) (hb : b < B32 ^ k) : cyA a b k = dg (a + b) k := by
 have := cyA_dg a b k
 rw [dg_big ha, dg_big hb, Nat.add_zero, Nat.mod_eq_of_lt] at this
 ·exact this
 ·have := cyA_le a b k; unfold B32; omega
theorem brw_dg {a b : Nat} (h : b ≤ a) (k : Nat) : (dg a k + B32 - dg b k - cyA b (a - b) k) % B32 = dg (a - b) k ∧ 1 - (dg a k + B32 - dg b k - cyA b (a - b) k) / B32 = cyA b (a - b) (k + 1) := by
 have h1 := cyA_dg b (a - b) k
 have h2 := cyA_succ b (a - b) k
 have h3 := cyA_le b (a - b) k
 have h4 := cyA_le b (a - b) (k + 1)
 rw [show b + (a - b) = a by omega] at h1
 have h5 := dg_lt b k
 have h6 := dg_lt (a - b) k
 generalize dg a k = x at *
 generalize dg b k = y at *
 generalize dg (a - b) k = z at *
 generalize cyA b (a - b) k = c at *
 generalize cyA b (a - b) (k + 1) = c' at *
 clear h
 unfold B32 at *
 omega
def cyS (a s k : Nat) : Nat := a % B32 ^ k * s / B32 ^ k
theorem cyS_zero (a s : Nat) : cyS a s 0 = 0 := by unfold cyS; rw [Nat.pow_zero, Nat.mod_one, Nat.zero_mul]
theorem cyS_lt {s : Nat} (hs : 0 < s) (a k : Nat) : cyS a s k < s := by
 unfold cyS
 rw [Nat.div_lt_iff_lt_mul (B32_pp k), Nat.mul_comm]
 exact Nat.mul_lt_mul_of_pos_left (Nat.mod_lt _ (B32_pp k)) hs
theorem cyS_sum (a s k : Nat) : a % B32 ^ (k + 1) * s = a % B32 ^ k * s + B32 ^ k * (dg a k * s) := by rw [low_dg, Nat.add_mul, Nat.mul_assoc]
theorem cyS_succ (a s k : Nat) : (cyS a s k + dg a k * s) / B32 = cyS a s (k + 1) := by
 unfold cyS; rw [cyS_sum, cut_step]
theorem cyS_dg (a s k : Nat) : (cyS a s k + dg a k * s) % B32 = dg (a * s) k := by
 unfold cyS; apply cut_dg; rw [← cyS_sum]; conv => { lhs; rw [Nat.mul_mod] }; conv => { rhs; rw [Nat.mul_mod, Nat.mod_mod] }
theorem cyS_end {a s k : Nat} (ha : a < B32 ^ k) (hs : 0 < s) (hs2 : s ≤ B32) : cyS a s k = dg (a * s) k := by
 have h := cyS_dg a s k
 have h2 := cyS_lt hs a k
 rw [dg_big ha, Nat.zero_mul, Nat.add_zero, Nat.mod_eq_of_lt (by omega)] at h
 exact h
theorem dg_shl (a s q k : Nat) : dg (a * (B32 ^ q * s)) (q + k) = dg (a * s) k := by
 unfold dg
 rw [Nat.pow_add, ← Nat.div_div_eq_div_mul, ← Nat.mul_assoc, Nat.mul_right_comm, Nat.mul_div_cancel _ (B32_pp q)]
theorem dg_shl0 {a s q j : Nat} (h : j < q) : dg (a * (B32 ^ q * s)) j = 0 := by
 unfold dg
 rw [show q = j + ((q - j - 1) + 1) by omega, Nat.pow_add, Nat.pow_succ, show a * (B32 ^ j * (B32 ^ (q - j - 1) * B32) * s) = B32 ^ j * (a * B32 ^ (q - j - 1) * s * B32) by ac_rfl, Nat.mul_div_cancel_left _ (B32_pp j), Nat.mul_mod_left]
theorem dg_shr {s t : Nat} (hs : s * t = B32) (a i : Nat) : (dg a i + B32 * dg a (i + 1)) / s % B32 = a / B32 ^ i / s % B32 := by
 have h1 : dg a i + B32 * dg a (i + 1) = a / B32 ^ i % (B32 * B32) := by
  unfold dg
  rw [Nat.pow_succ, ← Nat.div_div_eq_div_mul, Nat.mod_mul]
 rw [h1]
 generalize a / B32 ^ i = X
 have e : B32 * B32 = s * (B32 * t) := by rw [← hs]; ac_rfl
 rw [e, Nat.mod_mul_right_div_self, Nat.mod_mul_right_mod]
theorem dg_down (a q s k : Nat) : dg (a / (B32 ^ q * s)) k = a / B32 ^ (q + k) / s % B32 := by
 unfold dg
 rw [Nat.div_div_eq_div_mul, Nat.div_div_eq_div_mul, Nat.pow_add]
 congr 2
 ac_rfl
end Go.Proofs.YtngiodcdelfdmaaGreatDoor
namespace Go.Proofs.YtngiodcdelfdmaaGreatDoor
set_option linter.unusedVariables false
set_option linter.unusedSimpArgs false
def mX (a b i : Nat) : Nat := a % B32 ^ i * b
def tM (a b i k : Nat) : Nat := mX a b i % B32 ^ (i + k) + B32 ^ i * (dg a i * (b % B32 ^ k))
def cyM (a b i k : Nat) : Nat := tM a b i k / B32 ^ (i + k)
theorem mX_zero (a b : Nat) : mX a b 0 = 0 := by unfold mX; rw [Nat.pow_zero, Nat.mod_one, Nat.zero_mul]
theorem mX_end {a b i : Nat} (h : a < B32 ^ i) : mX a b i = a * b := by unfold mX; rw [Nat.mod_eq_of_lt h]
theorem mX_succ (a b i : Nat) : mX a b (i + 1) = mX a b i + B32 ^ i * (dg a i * b) := by unfold mX; rw [low_dg, Nat.add_mul, Nat.mul_assoc]
theorem cyM_zero (a b i : Nat) : cyM a b i 0 = 0 := by
 unfold cyM tM
 rw [Nat.pow_zero, Nat.mod_one, Nat.mul_zero, Nat.mul_zero, Nat.add_zero, Nat.add_zero]
 exact Nat.div_eq_of_lt (Nat.mod_lt _ (B32_pp i))
theorem tM_succ (a b i k : Nat) : tM a b i (k + 1) = tM a b i k + B32 ^ (i + k) * (dg a i * dg b k + dg (mX a b i) (i + k)) := by
 unfold tM
 rw [← Nat.add_assoc i k 1, low_dg (mX a b i), low_dg b, Nat.pow_add]
 generalize mX a b i % (B32 ^ i * B32 ^ k) = x
 generalize dg (mX a b i) (i + k) = y
 generalize B32 ^ i = p
 generalize B32 ^ k = q
 generalize b % q = z
 simp only [Nat.mul_add]
 rw [show p * (dg a i * (q * dg b k)) = p * q * (dg a i * dg b k) by ac_rfl]
 omega
theorem cyM_succ (a b i k : Nat) : (cyM a b i k + (dg a i * dg b k + dg (mX a b i) (i + k))) / B32 = cyM a b i (k + 1) := by
 unfold cyM; rw [tM_succ, ← Nat.add_assoc i k 1, cut_step]
theorem tM_mod (a b i k : Nat) : mX a b (i + 1) % B32 ^ (i + k) = tM a b i k % B32 ^ (i + k) := by
 unfold tM
 have h1 := Nat.mod_add_div (mX a b i) (B32 ^ (i + k))
 have h2 := Nat.mod_add_div b (B32 ^ k)
 have h3 : B32 ^ i * (dg a i * b) = B32 ^ i * (dg a i * (b % B32 ^ k)) + B32 ^ (i + k) * (dg a i * (b / B32 ^ k)) := by
  conv => { lhs; rw [← h2] }
  rw [Nat.mul_add (dg a i), Nat.mul_add (B32 ^ i), Nat.pow_add]
  congr 1
  ac_rfl
 have e : mX a b (i + 1) = mX a b i % B32 ^ (i + k) + B32 ^ i * (dg a i * (b % B32 ^ k)) + B32 ^ (i + k) * (mX a b i / B32 ^ (i + k) + dg a i * (b / B32 ^ k)) := by
  rw [mX_succ, h3, Nat.mul_add (B32 ^ (i + k))]
  omega
 rw [e, Nat.add_mul_mod_self_left]
theorem cyM_dg (a b i k : Nat) : (cyM a b i k + (dg a i * dg b k + dg (mX a b i) (i + k))) % B32 = dg (mX a b (i + 1)) (i + k) := by
 unfold cyM; apply cut_dg; rw [← tM_succ]; exact tM_mod a b i (k + 1)
theorem cyM_lt (a b i k : Nat) : cyM a b i k < B32 := by
 unfold cyM
 rw [Nat.div_lt_iff_lt_mul (B32_pp _)]
 unfold tM
 have h1 := Nat.mod_lt (mX a b i) (B32_pp (i + k))
 have h2 : dg a i * (b % B32 ^ k) ≤ (B32 - 1) * B32 ^ k := Nat.mul_le_mul (by have := dg_lt a i; omega) (Nat.le_of_lt (Nat.mod_lt _ (B32_pp k)))
 have h3 := Nat.mul_le_mul_left (B32 ^ i) h2
 have e : B32 ^ i * ((B32 - 1) * B32 ^ k) = (B32 - 1) * B32 ^ (i + k) := by rw [Nat.pow_add]; ac_rfl
 have e2 : B32 * B32 ^ (i + k) = (B32 - 1) * B32 ^ (i + k) + B32 ^ (i + k) := by
  rw [← Nat.succ_mul]; rfl
 rw [e] at h3
 rw [e2]
 omega
theorem cyM_end {a b i k : Nat} (hb : b < B32 ^ k) : cyM a b i (k + 1) = 0 := by
 unfold cyM
 apply Nat.div_eq_of_lt
 unfold tM
 rw [Nat.mod_eq_of_lt (Nat.lt_of_lt_of_le hb (Nat.pow_le_pow_right B32_pos (Nat.le_succ k)))]
 have h1 := Nat.mod_le (mX a b i) (B32 ^ (i + (k + 1)))
 have h2 : mX a b (i + 1) < B32 ^ (i + (k + 1)) := by
  unfold mX
  rw [show i + (k + 1) = (i + 1) + k by omega, Nat.pow_add B32 (i + 1) k]
  exact Nat.mul_lt_mul'' (Nat.mod_lt _ (B32_pp _)) hb
 rw [mX_succ] at h2
 omega
theorem mX_rest {a b i k j : Nat} (hb : b < B32 ^ k) (hc : cyM a b i k = 0) (hj : i + k ≤ j) : dg (mX a b i) j = dg (mX a b (i + 1)) j := by
 have ht : tM a b i k < B32 ^ (i + k) := by
  unfold cyM at hc
  have := Nat.div_add_mod (tM a b i k) (B32 ^ (i + k))
  rw [hc, Nat.mul_zero, Nat.zero_add] at this
  rw [← this]; exact Nat.mod_lt _ (B32_pp _)
 have h1 := Nat.mod_add_div (mX a b i) (B32 ^ (i + k))
 have e : mX a b (i + 1) = tM a b i k + B32 ^ (i + k) * (mX a b i / B32 ^ (i + k)) := by
  unfold tM
  rw [mX_succ, Nat.mod_eq_of_lt hb]
  omega
 have hq : mX a b (i + 1) / B32 ^ (i + k) = mX a b i / B32 ^ (i + k) := by
  rw [e, Nat.add_mul_div_left _ _ (B32_pp _), Nat.div_eq_of_lt ht, Nat.zero_add]
 unfold dg
 rw [show j = (i + k) + (j - (i + k)) by omega, Nat.pow_add, ← Nat.div_div_eq_div_mul, ← Nat.div_div_eq_div_mul, hq]
def cmpI (a b : Nat) : Int := if a < b then -1 else if b < a then 1 else 0
theorem cmpI_lt {a b : Nat} (h : a < b) : cmpI a b = -1 := by unfold cmpI; rw [if_pos h]
theorem cmpI_gt {a b : Nat} (h : b < a) : cmpI a b = 1 := by unfold cmpI; rw [if_neg (by omega), if_pos h]
theorem cmpI_self (a : Nat) : cmpI a a = 0 := by unfold cmpI; rw [if_neg (Nat.lt_irrefl _), if_neg (Nat.lt_irrefl _)]
theorem div_dg (a i : Nat) : a / B32 ^ i = B32 * (a / B32 ^ (i + 1)) + dg a i := by
 unfold dg
 rw [Nat.pow_succ, ← Nat.div_div_eq_div_mul]
 exact (Nat.div_add_mod _ _).symm
theorem lt_of_div {a b p : Nat} (h : a / p < b / p) : a < b := Nat.lt_of_not_le fun h2 => by
 have := Nat.div_le_div_right (c := p) h2; omega
theorem lt_at {a b i : Nat} (h : a / B32 ^ (i + 1) = b / B32 ^ (i + 1)) (hd : dg a i < dg b i) : a < b := by
 refine lt_of_div (p := B32 ^ i) ?_
 rw [div_dg a, div_dg b, h]; omega
theorem eq_at {a b i : Nat} (h : a / B32 ^ (i + 1) = b / B32 ^ (i + 1)) (hd : dg a i = dg b i) : a / B32 ^ i = b / B32 ^ i := by rw [div_dg a, div_dg b, h, hd]
theorem lt_len {a b : Nat} (h : dlenN a < dlenN b) : a < b := Nat.lt_of_lt_of_le (lt_dlen a) (dlen_ge h)
def lenX (n : Nat) : Nat := if n = 0 then 0 else Nat.log2 n + 1
theorem log2_of {n k : Nat} (h1 : 2 ^ k ≤ n) (h2 : n < 2 ^ (k + 1)) : Nat.log2 n = k := by
 have h0 : n ≠ 0 := by have := Nat.two_pow_pos k; omega
 have a := (Nat.le_log2 h0).2 h1
 have b := (Nat.log2_lt h0).2 h2
 omega
theorem lenX_of {n L j t : Nat} (hn : n < B32 ^ (L + 1)) (ht : t = dg n L) (hj : j ≤ 31) (h1 : 2 ^ 31 ≤ t * 2 ^ j) (h2 : t * 2 ^ j < 2 ^ 32) : lenX n = 32 * (L + 1) - j := by
 have hq : n / B32 ^ L = t := by rw [ht, dg, Nat.mod_eq_of_lt]; rw [Nat.div_lt_iff_lt_mul (B32_pp L), Nat.mul_comm, ← Nat.pow_succ]; exact hn
 have hp : (B32 ^ L : Nat) = 2 ^ (32 * L) := by rw [B32_pow, ← Nat.pow_mul]
 have hj2 : (2 ^ j : Nat) * 2 ^ (32 - j) = 2 ^ 32 := by rw [← Nat.pow_add]; congr 1; omega
 have h3 : t < 2 ^ (32 - j) := by
  refine Nat.lt_of_mul_lt_mul_left (a := 2 ^ j) ?_
  rw [hj2, Nat.mul_comm]; exact h2
 have hj3 : (2 ^ j : Nat) * 2 ^ (31 - j) = 2 ^ 31 := by rw [← Nat.pow_add]; congr 1; omega
 have h4 : 2 ^ (31 - j) ≤ t := by
  refine Nat.le_of_mul_le_mul_left (c := 2 ^ j) ?_ (Nat.two_pow_pos j)
  rw [hj3, Nat.mul_comm]; exact h1
 have h5 : 2 ^ (32 * L + (31 - j)) ≤ n := by
  rw [Nat.pow_add, ← hp, Nat.mul_comm]
  exact (Nat.le_div_iff_mul_le (B32_pp L)).1 (by rw [hq]; exact h4)
 have h6 : n < 2 ^ (32 * L + (31 - j) + 1) := by
  rw [show 32 * L + (31 - j) + 1 = (32 - j) + 32 * L by omega, Nat.pow_add, ← hp]
  exact (Nat.div_lt_iff_lt_mul (B32_pp L)).1 (by rw [hq]; exact h3)
 have h7 := log2_of h5 h6
 have h0 : n ≠ 0 := by have := Nat.two_pow_pos (32 * L + (31 - j)); omega
 unfold lenX
 rw [if_neg h0, h7]
 omega
theorem dg_testBit (a j k : Nat) (hk : k < 32) : (dg a j).testBit k = a.testBit (32 * j + k) := by
 unfold dg
 rw [B32_pow, Nat.testBit_mod_two_pow, decide_eq_true hk, Bool.true_and, ← Nat.pow_mul, Nat.testBit_div_two_pow, Nat.add_comm]
theorem dg_or (q i j : Nat) : dg (q ||| 2 ^ i) j = if j = i / 32 then dg q j ||| 2 ^ (i % 32) else dg q j := by
 apply Nat.eq_of_testBit_eq
 intro k
 by_cases hk : k < 32
 ·rw [dg_testBit _ _ _ hk, Nat.testBit_or, Nat.testBit_two_pow]
  split
  ·rename_i hj
   rw [Nat.testBit_or, dg_testBit _ _ _ hk, Nat.testBit_two_pow]
   congr 1
   rw [decide_eq_decide]; omega
  ·rename_i hj
   rw [dg_testBit _ _ _ hk, decide_eq_false (by omega), Bool.or_false]
 ·have l1 : dg (q ||| 2 ^ i) j < 2 ^ 32 := by have := dg_lt (q ||| 2 ^ i) j; rwa [B32_pow] at this
  have l0 : dg q j < 2 ^ 32 := by have := dg_lt q j; rwa [B32_pow] at this
  have l2 : (2 : Nat) ^ (i % 32) < 2 ^ 32 := Nat.pow_lt_pow_right (by decide) (by omega)
  have far : ∀ {a : Nat}, a < 2 ^ 32 → a.testBit k = false := fun {a} ha => Nat.testBit_lt_two_pow (Nat.lt_of_lt_of_le ha (Nat.pow_le_pow_right (by decide) (by omega)))
  rw [far l1]
  split
  ·rw [far (Nat.or_lt_two_pow l0 l2)]
  ·rw [far l0]
def qAt (A d i : Nat) : Nat := A / 2 ^ i / d * 2 ^ i
def rAt (A d i : Nat) : Nat := A / 2 ^ i % d
theorem bit_step (A i : Nat) : A / 2 ^ i = 2 * (A / 2 ^ (i + 1)) + (A.testBit i).toNat := by
 have h : A / 2 ^ (i + 1) = A / 2 ^ i / 2 := by rw [Nat.pow_succ, Nat.div_div_eq_div_mul]
 have h2 : (A.testBit i).toNat = A / 2 ^ i % 2 := Nat.toNat_testBit A i
 rw [h, h2]; omega
theorem at_top {A d L : Nat} (h : A < 2 ^ L) : qAt A d L = 0 ∧ rAt A d L = 0 := by
 unfold qAt rAt; rw [Nat.div_eq_of_lt h, Nat.zero_div, Nat.zero_mul, Nat.zero_mod]; exact ⟨rfl, rfl⟩
theorem at_zero (A d : Nat) : qAt A d 0 = A / d ∧ rAt A d 0 = A % d := by
 unfold qAt rAt; rw [Nat.pow_zero, Nat.div_one, Nat.mul_one]; exact ⟨rfl, rfl⟩
theorem or_powM {x i : Nat} : x * 2 ^ (i + 1) ||| 2 ^ i = x * 2 ^ (i + 1) + 2 ^ i := by
 rw [Nat.mul_comm x, ← Nat.two_pow_add_eq_or_of_lt (Nat.pow_lt_pow_right (by decide) (Nat.lt_succ_self i))]
theorem at_hit {A d i : Nat} (hd : 0 < d) (h : d ≤ 2 * rAt A d (i + 1) + (A.testBit i).toNat) : qAt A d i = qAt A d (i + 1) ||| 2 ^ i ∧ rAt A d i = 2 * rAt A d (i + 1) + (A.testBit i).toNat - d := by
 have hr : rAt A d (i + 1) < d := Nat.mod_lt _ hd
 have hb : (A.testBit i).toNat ≤ 1 := Bool.toNat_le _
 have e := Nat.div_add_mod (A / 2 ^ (i + 1)) d
 have e2 : A / 2 ^ i = (2 * rAt A d (i + 1) + (A.testBit i).toNat - d) + d * (2 * (A / 2 ^ (i + 1) / d) + 1) := by
  rw [bit_step A i]
  unfold rAt at *
  rw [Nat.mul_add d, show d * (2 * (A / 2 ^ (i + 1) / d)) = 2 * (d * (A / 2 ^ (i + 1) / d)) by ac_rfl]
  omega
 have hq : A / 2 ^ i / d = 2 * (A / 2 ^ (i + 1) / d) + 1 := by rw [e2, Nat.add_mul_div_left _ _ hd, Nat.div_eq_of_lt (by omega), Nat.zero_add]
 have hm : A / 2 ^ i % d = 2 * rAt A d (i + 1) + (A.testBit i).toNat - d := by rw [e2, Nat.add_mul_mod_self_left, Nat.mod_eq_of_lt (by omega)]
 refine ⟨?_, hm⟩
 unfold qAt
 rw [hq, or_powM, Nat.add_mul, Nat.one_mul, Nat.pow_succ]
 ac_rfl
theorem at_miss {A d i : Nat} (hd : 0 < d) (h : 2 * rAt A d (i + 1) + (A.testBit i).toNat < d) : qAt A d i = qAt A d (i + 1) ∧ rAt A d i = 2 * rAt A d (i + 1) + (A.testBit i).toNat := by
 have e := Nat.div_add_mod (A / 2 ^ (i + 1)) d
 have e2 : A / 2 ^ i = (2 * rAt A d (i + 1) + (A.testBit i).toNat) + d * (2 * (A / 2 ^ (i + 1) / d)) := by
  rw [bit_step A i]
  unfold rAt at *
  rw [show d * (2 * (A / 2 ^ (i + 1) / d)) = 2 * (d * (A / 2 ^ (i + 1) / d)) by ac_rfl]
  omega
 have hq : A / 2 ^ i / d = 2 * (A / 2 ^ (i + 1) / d) := by rw [e2, Nat.add_mul_div_left _ _ hd, Nat.div_eq_of_lt h, Nat.zero_add]
 have hm : A / 2 ^ i % d = 2 * rAt A d (i + 1) + (A.testBit i).toNat := by rw [e2, Nat.add_mul_mod_self_left, Nat.mod_eq_of_lt h]
 refine ⟨?_, hm⟩
 unfold qAt
 rw [hq, Nat.pow_succ]
 ac_rfl
def rtG (n : Nat) : Nat → Nat → Nat
 | 0, r => r
 | k + 1, r => rtG n k (if (r + 2 ^ k) * (r + 2 ^ k) ≤ n then r + 2 ^ k else r)
def rootX (n : Nat) : Nat := rtG n (lenX n / 2 + 1) 0
theorem rtG_spec (n : Nat) : ∀ (k r : Nat), r * r ≤ n → n < (r + 2 ^ k) * (r + 2 ^ k) → rtG n k r * rtG n k r ≤ n ∧ n < (rtG n k r + 1) * (rtG n k r + 1)
 | 0, r, h1, h2 => ⟨h1, h2⟩
 | k + 1, r, h1, h2 => by
  unfold rtG
  split
  ·rename_i h
   refine rtG_spec n k _ h ?_
   rw [Nat.add_assoc, ← Nat.mul_two, ← Nat.pow_succ]; exact h2
  ·rename_i h
   exact rtG_spec n k _ h1 (by omega)
theorem lenX_lt (n : Nat) : n < 2 ^ lenX n := by
 unfold lenX
 split
 ·rename_i h; rw [h]; decide
 ·rename_i h; exact (Nat.log2_lt h).1 (Nat.lt_succ_self _)
theorem rootX_spec (n : Nat) : rootX n * rootX n ≤ n ∧ n < (rootX n + 1) * (rootX n + 1) := by
 refine rtG_spec n _ 0 (Nat.zero_le _) ?_
 rw [Nat.zero_add, ← Nat.pow_add]
 exact Nat.lt_of_lt_of_le (lenX_lt n) (Nat.pow_le_pow_right (by decide) (by omega))
end Go.Proofs.YtngiodcdelfdmaaGreatDoor
namespace Go.Proofs.YtngiodcdelfdmaaGreatDoor
set_option linter.unusedVariables false
set_option linter.unusedSimpArgs false
open Go.RowKit
def NRet (w : World) (fvs : List Value) (n : Nat) (e : Ending) (w' : World) : Prop :=
 ∃ v, e = .returned v ∧ RdX w' v (dlenN n) n ∧ (∀ b, vblock v = some b → w.heap.size ≤ b) ∧ Bel w w'
theorem fit_nat {w : World} {v : Value} {x : Int} (h : FitX w .nat x v) : RdX w v (dlenN x.toNat) x.toNat := RdX.nat h
theorem npc_nat {P : Program} {G : Glob} {g : FuncId} {a : List Sh} {l : List Int} {n : Nat} {fn : Func} (hf : P.funcs[g]? = some fn) (hn : (fn.name == "runtime.NumGoroutine") = false) (hb : fn.body.isNone = false)
  (h : ∀ w fvs, Gl G w → FitL w (kindsOf a) l fvs → Calls P g (shp a fvs).toArray w (NRet w fvs n)) : NPC P G g ⟨a, [.sc .nat]⟩ l [(n : Int)] := by
 intro w fvs hG hfit
 refine callsX_of_calls hf hn hb ((h w fvs hG hfit).mono ?_)
 rintro e w' ⟨v, rfl, h1, h2, h3⟩
 refine ⟨[v], rfl, ⟨?_, trivial⟩, fun u hu => ?_, h3⟩
 ·show Reads w' v (dlenN (n : Int).toNat) (digV (n : Int).toNat)
  rw [Int.toNat_natCast]; exact h1.to rfl
 ·rw [List.mem_singleton.1 hu]; exact fun b hb => .inl (h2 b hb)
theorem npc_val {P : Program} {G : Glob} {g : FuncId} {a r : List Sh} {l : List Int} {m : List Int} {fn : Func} (hf : P.funcs[g]? = some fn) (hn : (fn.name == "runtime.NumGoroutine") = false) (hb : fn.body.isNone = false) (vs : List Value) (hk : ∀ w, FitL w (kindsOf r) m vs) (hv : ∀ v ∈ vs, vblock v = none)
  (h : ∀ w fvs, Gl G w → FitL w (kindsOf a) l fvs → Calls P g (shp a fvs).toArray w fun e w' => e = .returned (resVal (shp r vs)) ∧ Bel w w') : NPC P G g ⟨a, r⟩ l m := by
 intro w fvs hG hfit
 refine callsX_of_calls hf hn hb ((h w fvs hG hfit).mono ?_)
 rintro e w' ⟨rfl, h3⟩
 exact ⟨vs, rfl, hk w', fun u hu b hb => (by rw [hv u hu] at hb; cases hb), h3⟩
def okN (n : Nat) : Bool := Nat.blt (Nat.log2 n) 1073741824
theorem log2_dlen (n : Nat) : dlenN n ≤ Nat.log2 n / 32 + 1 := by
 rw [← dlenN_le]
 rcases Nat.eq_zero_or_pos n with rfl | h
 ·exact B32_pp _
 ·have h1 := (Nat.log2_lt (by omega : n ≠ 0)).1 (Nat.lt_succ_self (Nat.log2 n))
  refine Nat.lt_of_lt_of_le h1 ?_
  rw [B32_pow, ← Nat.pow_mul]
  exact Nat.pow_le_pow_right (by decide) (by omega)
theorem okN_dlen {n : Nat} (h : okN n = true) : dlenN n ≤ 33554432 := by
 have h1 : Nat.log2 n < 1073741824 := by unfold okN at h; simpa [Nat.blt_eq] using h
 have := log2_dlen n
 omega
theorem okN_of {n k : Nat} (h : n < 2 ^ k) (hk : k ≤ 1073741824) : okN n = true := by
 unfold okN
 rw [Nat.blt_eq]
 rcases Nat.eq_zero_or_pos n with rfl | h0
 ·decide
 ·have := (Nat.log2_lt (by omega : n ≠ 0)).2 h
  omega
end Go.Proofs.YtngiodcdelfdmaaGreatDoor
namespace Go.Proofs.YtngiodcdelfdmaaGreatDoor
set_option linter.unusedVariables false
open Go.RowKit Go.Shelf
attribute [local go_sem] Oper.semAt_some
def lenV : Value → Nat
 | .slice _ n _ => n
 | _ => 0
theorem RdX.some {w : World} {b off k cap x : Nat} (hb : b < w.heap.size) (hc : ∀ j, j < k → w.cell? ⟨b, off + j, none⟩ = some (dV x j)) : RdX w (.slice (some ⟨b, off, none⟩) k cap) k x :=
 .inr ⟨b, off, cap, rfl, hb, fun j y hj => by
  have hlt : j < k := by have := (List.getElem?_eq_some_iff.1 hj).1; rwa [rawV_len] at this
  rw [rawV_get hlt] at hj; cases hj; exact hc j hlt⟩
theorem dg_int_zero {x j : Nat} : Int.ofNat (dg x j) = 0 ↔ dg x j = 0 := Int.ofNat_eq_zero
theorem dlen_unique {x j : Nat} (h : x < B32 ^ j) (hd : 0 < j → dg x (j - 1) ≠ 0) : dlenN x = j := by
 rcases Nat.eq_zero_or_pos j with rfl | h0
 ·exact Nat.le_zero.1 (dlenN_le.1 h)
 ·obtain ⟨i, rfl⟩ : ∃ i, j = i + 1 := ⟨j - 1, by omega⟩
  exact dlen_of h (by simpa using hd h0)
set_option maxRecDepth 100000 in
set_option maxHeartbeats 1000000 in
theorem Trim_c (w : World) (v : Value) (k x : Nat) (hk : k ≤ 70000000) (hx : x < B32 ^ k) (h : RdX w v k x) (hcap : ∀ ad n c, v = .slice ad n c → n ≤ c) :
  Calls Tryz.prog 153 #[v] w fun e w' => ∃ u, e = .returned u ∧ RdX w u (dlenN x) x ∧ (∀ b, vblock u = some b → vblock v = some b) ∧ w = w' := by
 rcases h with ⟨rfl, rfl, _⟩ | ⟨b, off, cap, rfl, hb, hcc⟩
 ·have h0 : dlenN x = 0 := dlen_unique hx (fun h => by omega)
  rw [h0]
  have hR := RdX.nil w x
  go_enter Tryz.func153, Tryz.ntmps153
  go_wp2
  go_loop [0] (fun a => a = .slice none 0 0) (fun a => lenV a)
  case atStart => rfl
  case round =>
   obtain rfl := hrel
   go_wp2
   go_ret
   exact ⟨_, rfl, hR, fun b h => h, rfl⟩
 ·have hcell : ∀ j, j < k → w.cell? ⟨b, off + j, none⟩ = some (dV x j) := fun j hj => hcc j _ (rawV_get hj)
  clear hcc
  have hkc := hcap _ _ _ rfl
  clear hcap
  go_enter Tryz.func153, Tryz.ntmps153
  go_wp2
  go_loop [0] (fun a => ∃ j cap', j ≤ k ∧ j ≤ cap' ∧ a = .slice (some ⟨b, off, none⟩) j cap' ∧ x < B32 ^ j) (fun a => lenV a)
  case atStart => exact ⟨k, cap, Nat.le_refl _, hkc, rfl, hx⟩
  case round =>
   obtain ⟨j, cap', hj, hjc, rfl, hxj⟩ := hrel
   have hR : RdX w (.slice (some ⟨b, off, none⟩) j cap') j x := RdX.some hb fun i hi => hcell i (by omega)
   rcases Nat.eq_zero_or_pos j with rfl | h0
   ·go_wp2
    go_ret
    exact ⟨_, rfl, by rw [dlen_unique hxj (fun h => by omega)]; exact hR, fun b h => h, rfl⟩
   ·have hcx := hcell (j - 1) (by omega)
    have hcast : ((j : Int) - 1) = ((j - 1 : Nat) : Int) := by omega
    unfold dV at hcx
    by_cases hd : dg x (j - 1) = 0
    ·have hd2 : Int.ofNat (dg x (j - 1)) = 0 := dg_int_zero.2 hd
     rw [hd2] at hcx
     have hxx : x < B32 ^ (j - 1) := lt_drop (by rw [Nat.sub_add_cancel h0]; exact hxj) hd
     have hle : ((j - 1 : Nat) : Int) ≤ (cap' : Int) := by omega
     go_wp2
     go_round
     case rel => exact ⟨j - 1, cap', by omega, by omega, rfl, hxx⟩
     case measure => simp [lenV]; omega
    ·have hd2 : ¬ Int.ofNat (dg x (j - 1)) = 0 := fun h => hd (dg_int_zero.1 h)
     generalize Int.ofNat (dg x (j - 1)) = z at hcx hd2
     have hz : (z == 0) = false := by simp [hd2]
     go_wp2
     go_ret
     exact ⟨_, rfl, by rw [dlen_unique hxj (fun _ => hd)]; exact hR, fun b h => h, rfl⟩
set_option maxRecDepth 100000 in
set_option maxHeartbeats 1000000 in
theorem digit_c (w : World) (v : Value) (k x i : Nat) (hk : k ≤ 70000000) (hi : i ≤ 70000000) (hx : x < B32 ^ k) (h : RdX w v k x) :
  Calls Tryz.prog 152 #[v, .int .i64 (i : Int)] w fun e w' => e = .returned (.int .u32 (dg x i : Int)) ∧ w = w' := by
 by_cases hlt : i < k
 ·obtain ⟨b, off, cap, rfl, hb, hcell⟩ := h.pos (by omega)
  have hcx := hcell i hlt
  unfold dV at hcx
  have hi2 : (i : Int) < (k : Int) := by omega
  go_enter Tryz.func152, Tryz.ntmps152
  go_wp2
  go_ret
  exact ⟨rfl, rfl⟩
 ·obtain ⟨ad, cap, rfl, _⟩ := h.any
  have hz : dg x i = 0 := dg_mono hx (by omega)
  have hi2 : ¬ (i : Int) < (k : Int) := by omega
  rw [hz]
  go_enter Tryz.func152, Tryz.ntmps152
  go_wp2
  go_ret
  exact ⟨rfl, rfl⟩
end Go.Proofs.YtngiodcdelfdmaaGreatDoor
namespace Go.Proofs.YtngiodcdelfdmaaGreatDoor
set_option linter.unusedVariables false
open Go.RowKit Go.Shelf
attribute [local go_sem] Oper.semAt_some
theorem infoU32 : (Tryz.prog.info? 142).map (fun i => (i.zero, i.size, i.bytes)) = some (some (.int .u32 0), 1, 4) := by kernel_rfl
theorem own_cap {w : World} {base e : Nat} {v : Value} {k : Nat} {xs : List Value} (h : w.ownsRow base e 1 v k xs) : ∀ ad n c, v = .slice ad n c → n ≤ c := by
 intro ad n c hv
 rcases h.2 with ⟨h1, h2⟩ | ⟨g, cap, cur, h1, _, _, h3, _⟩
 ·rw [h1] at hv; cases hv; exact Nat.le_refl _
 ·rw [h1] at hv; cases hv; exact h3
theorem own_block {w : World} {base e : Nat} {v : Value} {k : Nat} {xs : List Value} (h : w.ownsRow base e 1 v k xs) : ∀ b, vblock v = some b → base ≤ b := fun b hb => by
 rcases h.2 with ⟨rfl, _⟩ | ⟨g, cap, cur, rfl, h3, _⟩
 ·cases hb
 ·cases hb; exact h3
theorem NRet.of {w w1 : World} {fvs : List Value} {u v : Value} {k x e : Nat} {xs : List Value} (h : w1.ownsRow w.heap.size e 1 v k xs) (hr : RdX w1 u (dlenN x) x) (hb : ∀ b, vblock u = some b → vblock v = some b) (hB : Bel w w1) : NRet w fvs x (.returned u) w1 :=
 ⟨u, rfl, hr, fun b h1 => own_block h b (hb b h1), hB⟩
theorem add_lt {a b la lb : Nat} (ha : a < B32 ^ la) (hb : b < B32 ^ lb) : a < B32 ^ max la lb ∧ b < B32 ^ max la lb ∧ a + b < B32 ^ (max la lb + 1) := by
 have h1 : a < B32 ^ max la lb := Nat.lt_of_lt_of_le ha (Nat.pow_le_pow_right B32_pos (Nat.le_max_left _ _))
 have h2 : b < B32 ^ max la lb := Nat.lt_of_lt_of_le hb (Nat.pow_le_pow_right B32_pos (Nat.le_max_right _ _))
 refine ⟨h1, h2, ?_⟩
 rw [Nat.pow_succ]
 have h3 : B32 ^ max la lb * 2 ≤ B32 ^ max la lb * B32 := Nat.mul_le_mul_left _ (by decide)
 omega
set_option maxRecDepth 100000 in
set_option maxHeartbeats 1000000 in
theorem Add_c (w : World) (va vb : Value) (a b : Nat) (ha : dlenN a ≤ 34000000) (hb : dlenN b ≤ 34000000) (hA : RdX w va (dlenN a) a) (hB : RdX w vb (dlenN b) b) :
  Calls Tryz.prog 122 #[va, vb] w (NRet w [va, vb] (a + b)) := by
 obtain ⟨i0, hi, hz0, hz1, hz2⟩ := info_parts infoU32
 obtain ⟨ada, capa, rfl, _⟩ := hA.any
 obtain ⟨adb, capb, rfl, _⟩ := hB.any
 have hxa := lt_dlen a
 have hxb := lt_dlen b
 generalize dlenN a = la at *
 generalize dlenN b = lb at *
 go_enter Tryz.func122, Tryz.ntmps122
 go_wp2
 go_loopw [5, 6, 7] (fun out c i wr => ∃ k : Nat, k ≤ max la lb ∧ i = .int .i64 (k : Int) ∧ c = .int .u64 (cyA a b k : Int) ∧ wr.ownsRow w.heap.size 142 1 out k (rawV k (a + b)) ∧ Below w.heap.size w wr)
  (fun _ _ i _ => max la lb - (intOf i).toNat)
 case atStart => exact ⟨0, Nat.zero_le _, rfl, by rw [cyA_zero]; rfl, World.ownsRow_nil _ _ _ _, Below.refl _ _⟩
 case round =>
  obtain ⟨k, hk, rfl, rfl, hown, hnx⟩ := hrel
  have hAr := hA.bel hnx
  have hBr := hB.bel hnx
  by_cases hlt : k < max la lb
  ·have e1 := cyA_dg a b k
   have e2 := cyA_succ a b k
   have b1 := cyA_le a b k
   have b2 := dg_lt a k
   have b3 := dg_lt b k
   have hda := digit_c wr _ la a k (by omega) (by omega) hxa hAr
   have hdb := digit_c wr _ lb b k (by omega) (by omega) hxb hBr
   generalize cyA a b k = c at *
   generalize dg a k = x at *
   generalize dg b k = y at *
   unfold B32 at b2 b3
   have ez : (((c : Int) + x + y) % 4294967296) = ((dg (a + b) k : Nat) : Int) := by rw [← e1]; unfold B32; omega
   have ec : (((c : Int) + x + y) / 4294967296) = ((cyA a b (k + 1) : Nat) : Int) := by rw [← e2]; unfold B32; omega
   clear e1 e2
   have hsz := hnx.size
   have qk : (k : Int) < (la : Int) ∨ (¬ (k : Int) < (la : Int) ∧ (k : Int) < (lb : Int)) := by omega
   rcases qk with q1 | ⟨q1, q2⟩
   all_goals
    go_wp2_with (first | (go_at_call 152; with_reducible refine hda.mono ?_; rintro e w' ⟨rfl, rfl⟩) | (go_at_call 152; with_reducible refine hdb.mono ?_; rintro e w' ⟨rfl, rfl⟩) | (at_builtin; refine wpList_append_own _ rfl (.tmp 31) (.tmp 34) 65 rfl w.heap.size 142 i0 (.int .u32 0) 1 4 Tryz.underlying65 hi hz0 hz1 hz2 rfl (by decide) _ _ _ rfl (hown.alloc _) ⟨wr.heap.size, 0, none⟩ 1 1 [.int .u32 ((dg (a + b) k : Nat) : Int)] rfl rfl (cell_one_new _ _ _) (by simp [Value.oneCell']) (by unfold maxLen; omega) (by omega) (by simp; omega) ?_; intro v' w1 hown1 hgrow _))
    go_roundw
    case rel => exact ⟨k + 1, by omega, by go_num, rfl, by rw [rawV_succ]; exact hown1, hnx.trans (((Below.refl _ wr).alloc hsz _).grown hgrow (by simp; omega) (ownsRow_own hown))⟩
    case measure => simp [intOf]; omega
  ·obtain rfl : k = max la lb := by omega
   obtain ⟨l1, l2, l3⟩ := add_lt hxa hxb
   have ec := cyA_end l1 l2
   rw [ec]
   have b3 := dg_lt (a + b) (max la lb)
   have ez : Int.ofNat (dg (a + b) (max la lb)) = ((dg (a + b) (max la lb) : Nat) : Int) := rfl
   have hsz := hnx.size
   have q1 : ¬ ((max la lb : Nat) : Int) < (la : Int) := by omega
   have q2 : ¬ ((max la lb : Nat) : Int) < (lb : Int) := by omega
   have hmk : max la lb + 1 ≤ 70000000 := by omega
   have hsucc := rawV_succ (max la lb) (a + b)
   unfold dV at hsucc
   rw [ez] at hsucc
   clear ez ec
   generalize max la lb = k at *
   generalize dg (a + b) k = d at *
   unfold B32 at b3
   have hm : (d : Int) % 4294967296 = d := by omega
   go_wp2_with (first | (go_at_call 153; with_reducible refine (Trim_c _ _ _ _ hmk l3 (rdx_of_own hown1) (own_cap hown1)).mono ?_; rintro e w' ⟨u, rfl, hr, hbk, rfl⟩) | (at_builtin; refine wpList_append_own _ rfl (.tmp 38) (.tmp 41) 65 rfl w.heap.size 142 i0 (.int .u32 0) 1 4 Tryz.underlying65 hi hz0 hz1 hz2 rfl (by decide) _ _ _ rfl (hown.alloc _) ⟨wr.heap.size, 0, none⟩ 1 1 [.int .u32 (d : Int)] rfl rfl (cell_one_new _ _ _) (by simp [Value.oneCell']) (by unfold maxLen; omega) (by omega) (by simp; omega) ?_; intro v' w1 hown1 hgrow _; rw [← hsucc] at hown1))
   go_ret
   exact NRet.of hown1 hr hbk (hnx.trans (((Below.refl _ wr).alloc hsz _).grown hgrow (by simp; omega) (ownsRow_own hown)))
set_option maxRecDepth 100000 in
set_option maxHeartbeats 1000000 in
theorem Sub_c (w : World) (va vb : Value) (a b : Nat) (hba : b ≤ a) (ha : dlenN a ≤ 34000000) (hA : RdX w va (dlenN a) a) (hB : RdX w vb (dlenN b) b) :
  Calls Tryz.prog 100 #[va, vb] w (NRet w [va, vb] (a - b)) := by
 obtain ⟨i0, hi, hz0, hz1, hz2⟩ := info_parts infoU32
 obtain ⟨ada, capa, rfl, _⟩ := hA.any
 obtain ⟨adb, capb, rfl, _⟩ := hB.any
 have hxa := lt_dlen a
 have hxb := lt_dlen b
 have hlb : dlenN b ≤ dlenN a := dlenN_le.1 (Nat.lt_of_le_of_lt hba hxa)
 generalize dlenN a = la at *
 generalize dlenN b = lb at *
 go_enter Tryz.func100, Tryz.ntmps100
 go_wp2
 go_loopw [5, 6, 7] (fun out c i wr => ∃ k : Nat, k ≤ la ∧ i = .int .i64 (k : Int) ∧ c = .int .u64 (cyA b (a - b) k : Int) ∧ wr.ownsRow w.heap.size 142 1 out k (rawV k (a - b)) ∧ Below w.heap.size w wr)
  (fun _ _ i _ => la - (intOf i).toNat)
 case atStart => exact ⟨0, Nat.zero_le _, rfl, by rw [cyA_zero]; rfl, World.ownsRow_nil _ _ _ _, Below.refl _ _⟩
 case round =>
  obtain ⟨k, hk, rfl, rfl, hown, hnx⟩ := hrel
  have hAr := hA.bel hnx
  have hBr := hB.bel hnx
  by_cases hlt : k < la
  ·obtain ⟨e1, e2⟩ := brw_dg hba k
   have b1 := cyA_le b (a - b) k
   have b2 := dg_lt a k
   have b3 := dg_lt b k
   have hda := digit_c wr _ la a k (by omega) (by omega) hxa hAr
   have hdb := digit_c wr _ lb b k (by omega) (by omega) hxb hBr
   generalize cyA b (a - b) k = c at *
   generalize dg a k = x at *
   generalize dg b k = y at *
   unfold B32 at b2 b3
   have ez : (((x : Int) + 4294967296 - y - c) % 4294967296) = ((dg (a - b) k : Nat) : Int) := by rw [← e1]; unfold B32; omega
   have ec : (1 - ((x : Int) + 4294967296 - y - c) / 4294967296) = ((cyA b (a - b) (k + 1) : Nat) : Int) := by rw [← e2]; unfold B32; omega
   clear e1 e2
   have hsz := hnx.size
   have q1 : (k : Int) < (la : Int) := by omega
   go_wp2_with (first | (go_at_call 152; with_reducible refine hda.mono ?_; rintro e w' ⟨rfl, rfl⟩) | (go_at_call 152; with_reducible refine hdb.mono ?_; rintro e w' ⟨rfl, rfl⟩) | (at_builtin; refine wpList_append_own _ rfl (.tmp 27) (.tmp 30) 65 rfl w.heap.size 142 i0 (.int .u32 0) 1 4 Tryz.underlying65 hi hz0 hz1 hz2 rfl (by decide) _ _ _ rfl (hown.alloc _) ⟨wr.heap.size, 0, none⟩ 1 1 [.int .u32 ((dg (a - b) k : Nat) : Int)] rfl rfl (cell_one_new _ _ _) (by simp [Value.oneCell']) (by unfold maxLen; omega) (by omega) (by simp; omega) ?_; intro v' w1 hown1 hgrow _))
   go_roundw
   case rel => exact ⟨k + 1, by omega, by go_num, rfl, by rw [rawV_succ]; exact hown1, hnx.trans (((Below.refl _ wr).alloc hsz _).grown hgrow (by simp; omega) (ownsRow_own hown))⟩
   case measure => simp [intOf]; omega
  ·obtain rfl : k = la := by omega
   have l3 : a - b < B32 ^ k := Nat.lt_of_le_of_lt (Nat.sub_le _ _) hxa
   have hmk : k ≤ 70000000 := by omega
   go_wp2_with (go_at_call 153; with_reducible refine (Trim_c _ _ _ _ hmk l3 (rdx_of_own hown) (own_cap hown)).mono ?_; rintro e w' ⟨u, rfl, hr, hbk, rfl⟩)
   go_ret
   exact NRet.of hown hr hbk hnx
end Go.Proofs.YtngiodcdelfdmaaGreatDoor
namespace Go.Proofs.YtngiodcdelfdmaaGreatDoor
set_option linter.unusedVariables false
open Go.RowKit Go.Shelf
attribute [local go_sem] Oper.semAt_some
def topM (v : Value) : Nat := B32 - (intOf v).toNat
theorem dg_word0 {v : Nat} : v % 4294967296 = dg v 0 := (dg_zero v).symm
theorem dg_word1 {v : Nat} (h : v < 18446744073709551616) : v / 4294967296 % 4294967296 = dg v 1 := by unfold dg; rw [Nat.pow_one]; rfl
set_option maxRecDepth 100000 in
set_option maxHeartbeats 1000000 in
theorem Of_c (w : World) (v : Nat) (hv : v < 18446744073709551616) : Calls Tryz.prog 120 #[.int .u64 (v : Int)] w (NRet w [] v) := by
 have hx : v < B32 ^ 2 := by unfold B32; exact hv
 have d0 : (v : Int) % 4294967296 = ((dg v 0 : Nat) : Int) := by rw [← dg_word0]; omega
 have hR : RdX (w.alloc (.cells #[.int .u32 ((dg v 0 : Nat) : Int), .int .u32 ((v : Int) / 4294967296)] 142)) (.slice (some ⟨w.heap.size, 0, none⟩) 2 2) 2 v := by
  refine RdX.some (by simp) fun j hj => ?_
  rcases (show j = 0 ∨ j = 1 by omega) with rfl | rfl
  ·unfold World.cell?; simp only [World.alloc_heap_new]; rfl
  ·have d1 : dV v 1 = .int .u32 ((v : Int) / 4294967296) := by
    unfold dV; rw [← dg_word1 hv]; congr 1; simp only [Int.ofNat_eq_natCast]; omega
   rw [d1]; unfold World.cell?; simp only [World.alloc_heap_new]; rfl
 have q : (v : Int) / 4294967296 < 4294967296 := by omega
 go_enter Tryz.func120, Tryz.ntmps120
 go_wp2_with (go_at_call 153; refine (Trim_c _ _ 2 v (by omega) hx hR (fun ad n c h => by cases h; exact Nat.le_refl _)).mono ?_; rintro e w' ⟨u, rfl, hr, hbk, rfl⟩)
 go_ret
 exact ⟨_, rfl, hr, fun b h => (by have := hbk b h; cases this; exact Nat.le_refl _), (Bel.refl w).alloc _⟩
set_option maxRecDepth 100000 in
set_option maxHeartbeats 1000000 in
theorem Len_c (w : World) (va : Value) (a : Nat) (ha : dlenN a ≤ 34000000) (hA : RdX w va (dlenN a) a) :
  Calls Tryz.prog 124 #[va] w fun e w' => e = .returned (.int .i64 (lenX a : Int)) ∧ w = w' := by
 rcases Nat.eq_zero_or_pos a with rfl | h0
 ·obtain ⟨ada, capa, rfl, _⟩ := hA.any
  rw [dlenN_zero]
  go_enter Tryz.func124, Tryz.ntmps124
  go_wp2
  go_ret
  exact ⟨rfl, rfl⟩
 ·have hL : 0 < dlenN a := by rw [dlenN_pos h0]; omega
  have htop := dg_top h0
  have hxa := lt_dlen a
  obtain ⟨b, off, cap, rfl, hb, hcell⟩ := hA.pos hL
  have hcx := hcell (dlenN a - 1) (by omega)
  unfold dV at hcx
  obtain ⟨L, hLe⟩ : ∃ L, dlenN a = L + 1 := ⟨dlenN a - 1, by omega⟩
  clear hcell hA
  rw [hLe] at hcx htop hxa ha ⊢
  rw [Nat.add_sub_cancel] at hcx htop
  have ht := dg_lt a L
  have hq := @lenX_of a L
  obtain ⟨t, htd⟩ : ∃ t, dg a L = t := ⟨_, rfl⟩
  rw [htd] at hcx ht htop
  have hcast : Int.ofNat t = (t : Int) := rfl
  rw [hcast] at hcx
  unfold B32 at ht
  go_enter Tryz.func124, Tryz.ntmps124
  go_wp2
  go_loop [3, 4] (fun n top => ∃ j T : Nat, j ≤ 31 ∧ T = t * 2 ^ j ∧ T < B32 ∧ top = .int .u32 (T : Int) ∧ n = .int .i64 (32 * ((L : Int) + 1) - (j : Int))) (fun _ top => topM top)
  case atStart => exact ⟨0, t, by omega, by omega, by unfold B32; exact ht, rfl, by simp⟩
  case round =>
   obtain ⟨j, T, hj, hT, hlt, rfl, rfl⟩ := hrel
   unfold B32 at hlt
   have hT0 : 0 < T := by rw [hT]; exact Nat.mul_pos (by omega) (Nat.two_pow_pos _)
   by_cases hs : T < 2147483648
   ·have hj30 : j ≤ 30 := by
     apply Nat.le_of_not_lt; intro hgt
     have : j = 31 := by omega
     subst this
     omega
    have q1 : (T : Int) < 2147483648 := by omega
    have q2 : 0 < (T : Int) := by omega
    have H := Lib.hid (And.intro hlt (And.intro hs hT))
    clear hlt hs hq ht hT hT0
    go_wp2
    obtain ⟨hlt, hs, hT⟩ := H.out
    go_round
    case rel => exact ⟨j + 1, T * 2, by omega, by rw [Nat.pow_succ, ← Nat.mul_assoc, hT], by unfold B32; omega, by go_num, by go_num⟩
    case measure => unfold topM B32; simp only [intOf]; omega
   ·have hlen := hq (j := j) (t := t) hxa htd.symm hj (by omega) (by omega)
    have q1 : ¬ (T : Int) < 2147483648 := by omega
    have e : ((lenX a : Nat) : Int) = 32 * ((L : Int) + 1) - (j : Int) := by omega
    have H := Lib.hid e
    clear hlt hs hq ht hlen e hT hT0
    go_wp2
    have e := H.out
    go_ret
    exact ⟨by rw [e]; rfl, rfl⟩
end Go.Proofs.YtngiodcdelfdmaaGreatDoor
namespace Go.Proofs.YtngiodcdelfdmaaGreatDoor
set_option linter.unusedVariables false
open Go.RowKit Go.Shelf
attribute [local go_sem] Oper.semAt_some
theorem cyS_or {c y s : Nat} (hc : c < 2 ^ s) : c ||| y * 2 ^ s = c + y * 2 ^ s := by
 rw [Nat.or_comm, Nat.mul_comm, ← Nat.two_pow_add_eq_or_of_lt hc, Nat.add_comm]
theorem pow_split (n : Nat) : 2 ^ n = B32 ^ (n / 32) * 2 ^ (n % 32) := by
 rw [B32_pow, ← Nat.pow_mul, ← Nat.pow_add]; congr 1; omega
theorem rawV_shl0 (a n : Nat) : rawV (n / 32) (a * 2 ^ n) = List.replicate (n / 32) (Value.int .u32 0) := by
 rw [pow_split n]
 unfold rawV
 rw [List.eq_replicate_iff]
 refine ⟨by simp, fun b hb => ?_⟩
 obtain ⟨j, hj, rfl⟩ := List.mem_map.1 hb
 unfold dV
 rw [dg_shl0 (List.mem_range.1 hj)]; rfl
theorem shl_ltR {a la : Nat} (n : Nat) (h : a < B32 ^ la) : a * 2 ^ n < B32 ^ (n / 32 + la + 1) := by
 rw [pow_split n, Nat.pow_succ, Nat.pow_add]
 have h1 : (2 : Nat) ^ (n % 32) ≤ B32 := by rw [B32_pow]; exact Nat.pow_le_pow_right (by decide) (by omega)
 have h2 : a * (B32 ^ (n / 32) * 2 ^ (n % 32)) ≤ a * (B32 ^ (n / 32) * B32) := Nat.mul_le_mul_left _ (Nat.mul_le_mul_left _ h1)
 refine Nat.lt_of_le_of_lt h2 ?_
 rw [show a * (B32 ^ (n / 32) * B32) = B32 ^ (n / 32) * B32 * a by ac_rfl, show B32 ^ (n / 32) * B32 ^ la * B32 = B32 ^ (n / 32) * B32 * B32 ^ la by ac_rfl]
 exact Nat.mul_lt_mul_of_pos_left h (Nat.mul_pos (B32_pp _) B32_pos)
theorem shl_word {c x s : Nat} (hc : c < 2 ^ s) (hx : x < 4294967296) (hs : s < 32) : bits .or .u64 (c : Int) (IntKind.u64.wrap (IntKind.u64.wrap (x : Int) * 2 ^ s)) = ((c + x * 2 ^ s : Nat) : Int) := by
 have h1 : (2 : Nat) ^ s ≤ 2 ^ 31 := Nat.pow_le_pow_right (by decide) (by omega)
 have h2 : x * 2 ^ s ≤ 4294967295 * 2 ^ 31 := Nat.mul_le_mul (by omega) h1
 have e1 : IntKind.u64.wrap (x : Int) = (x : Int) := by rw [w64_u]; exact u64_nat' x (by unfold W64; omega)
 have e2 : IntKind.u64.wrap ((x : Int) * 2 ^ s) = ((x * 2 ^ s : Nat) : Int) := by
  rw [show (x : Int) * 2 ^ s = ((x * 2 ^ s : Nat) : Int) by rw [Int.natCast_mul, Int.natCast_pow]; rfl, w64_u]
  exact u64_nat' _ (by unfold W64; omega)
 rw [e1, e2, u64_or_nat _ _ (by omega) (by omega), cyS_or hc]
set_option maxRecDepth 100000 in
set_option maxHeartbeats 1000000 in
theorem Shl_c (w : World) (va : Value) (a n : Nat) (hn : n ≤ 1073741824) (ha : dlenN a ≤ 34000000) (hA : RdX w va (dlenN a) a) :
  Calls Tryz.prog 80 #[va, .int .i64 (n : Int)] w (NRet w [va] (a * 2 ^ n)) := by
 obtain ⟨i0, hi, hz0, hz1, hz2⟩ := info_parts infoU32
 obtain ⟨ada, capa, rfl, hcell⟩ := hA.any
 have hxa := lt_dlen a
 generalize dlenN a = la at *
 have hq1 : Int.tdiv (n : Int) 32 = ((n / 32 : Nat) : Int) := rfl
 have hq2 : Int.tmod (n : Int) 32 = ((n % 32 : Nat) : Int) := rfl
 have hqq : n / 32 ≤ 33554432 := by omega
 go_enter Tryz.func80, Tryz.ntmps80
 go_wp2_with (at_make; refine wpList_make_full _ rfl (.tmp 9) (.tmp 9) 65 rfl w.heap.size 142 i0 (.int .u32 0) 1 Tryz.underlying65 hi hz0 hz1 .i64 .i64 ((n : Int) / 32) ((n : Int) / 32) (n / 32) rfl rfl (by omega) (by omega) (by rw [hz2]; omega) (by unfold maxLen; omega) (Nat.le_refl _) ?_; intro w1 hown0 hgrow0)
 have hB1 : Below w.heap.size w w1 := (Below.refl _ w).grown hgrow0 (Nat.le_refl _) (fun k hk => by cases hk)
 have hz : (madeCells (Value.int .u32 0).cells (n / 32 * 1)).toList = rawV (n / 32) (a * 2 ^ n) := by
  rw [show (Value.int .u32 0).cells = #[Value.int .u32 0] from rfl, toList_madeCells_one, Nat.mul_one, rawV_shl0]
 rw [hz] at hown0
 go_loopw [5, 6, 7] (fun out c i wr => ∃ k : Nat, k ≤ la ∧ i = .int .i64 (k : Int) ∧ c = .int .u64 (cyS a (2 ^ (n % 32)) k : Int) ∧ wr.ownsRow w.heap.size 142 1 out (n / 32 + k) (rawV (n / 32 + k) (a * 2 ^ n)) ∧ Below w.heap.size w wr)
  (fun _ _ i _ => la - (intOf i).toNat)
 case atStart => exact ⟨0, Nat.zero_le _, rfl, by rw [cyS_zero]; rfl, hown0, hB1⟩
 case round =>
  obtain ⟨k, hk, rfl, rfl, hown, hnx⟩ := hrel
  by_cases hlt : k < la
  ·obtain ⟨b, off, rfl, hb, hcl⟩ := hcell (by omega)
   have hcx := (hnx.cell (p := ⟨b, off + k, none⟩) hb).trans (hcl k hlt)
   unfold dV at hcx
   have q1 : (k : Int) < (la : Int) := by omega
   have b1 := cyS_lt (Nat.two_pow_pos (n % 32)) a k
   have b2 := dg_lt a k
   have e1 := cyS_dg a (2 ^ (n % 32)) k
   have e2 := cyS_succ a (2 ^ (n % 32)) k
   have hor := shl_word b1 b2 (show n % 32 < 32 by omega)
   have hdg := dg_shl a (2 ^ (n % 32)) (n / 32) k
   rw [← pow_split] at hdg
   rw [← hdg] at e1
   rw [show Int.ofNat (dg a k) = ((dg a k : Nat) : Int) from rfl] at hcx
   generalize dg a k = x at *
   generalize cyS a (2 ^ (n % 32)) k = c at *
   generalize c + x * 2 ^ (n % 32) = T at *
   have ez : (T : Int) % 4294967296 = ((dg (a * 2 ^ n) (n / 32 + k) : Nat) : Int) := by rw [← e1]; unfold B32; omega
   have ec : (T : Int) / 4294967296 = ((cyS a (2 ^ (n % 32)) (k + 1) : Nat) : Int) := by rw [← e2]; unfold B32; omega
   clear e1 e2 b1 b2 hdg
   have hsz := hnx.size
   go_wp2_with (at_builtin; refine wpList_append_own _ rfl (.tmp 27) (.tmp 30) 65 rfl w.heap.size 142 i0 (.int .u32 0) 1 4 Tryz.underlying65 hi hz0 hz1 hz2 rfl (by decide) _ _ _ rfl (hown.alloc _) ⟨wr.heap.size, 0, none⟩ 1 1 [.int .u32 ((dg (a * 2 ^ n) (n / 32 + k) : Nat) : Int)] rfl rfl (cell_one_new _ _ _) (by simp [Value.oneCell']) (by unfold maxLen; omega) (by omega) (by simp; omega) ?_; intro v' w1 hown1 hgrow _)
   go_roundw
   case rel => exact ⟨k + 1, by omega, by go_num, rfl, by rw [← Nat.add_assoc, rawV_succ]; exact hown1, hnx.trans (((Below.refl _ wr).alloc hsz _).grown hgrow (by simp; omega) (ownsRow_own hown))⟩
   case measure => simp [intOf]; omega
  ·obtain rfl : k = la := by omega
   have h32 : (2 : Nat) ^ (n % 32) ≤ B32 := by rw [B32_pow]; exact Nat.pow_le_pow_right (by decide) (by omega)
   have ec := cyS_end (k := k) (s := 2 ^ (n % 32)) hxa (Nat.two_pow_pos _) h32
   have hdg := dg_shl a (2 ^ (n % 32)) (n / 32) k
   rw [← pow_split] at hdg
   rw [← hdg] at ec
   rw [ec]
   have l3 := shl_ltR n hxa
   have b3 := dg_lt (a * 2 ^ n) (n / 32 + k)
   have hmk : n / 32 + k + 1 ≤ 70000000 := by omega
   have hsucc := rawV_succ (n / 32 + k) (a * 2 ^ n)
   unfold dV at hsucc
   rw [show Int.ofNat (dg (a * 2 ^ n) (n / 32 + k)) = ((dg (a * 2 ^ n) (n / 32 + k) : Nat) : Int) from rfl] at hsucc
   have hsz := hnx.size
   have q1 : ¬ ((k : Nat) : Int) < (k : Int) := by omega
   clear ec hdg
   generalize dg (a * 2 ^ n) (n / 32 + k) = d at *
   unfold B32 at b3
   have hm : (d : Int) % 4294967296 = d := by omega
   go_wp2_with (first | (go_at_call 153; with_reducible refine (Trim_c _ _ _ _ hmk l3 (rdx_of_own hown1) (own_cap hown1)).mono ?_; rintro e w' ⟨u, rfl, hr, hbk, rfl⟩) | (at_builtin; refine wpList_append_own _ rfl (.tmp 34) (.tmp 37) 65 rfl w.heap.size 142 i0 (.int .u32 0) 1 4 Tryz.underlying65 hi hz0 hz1 hz2 rfl (by decide) _ _ _ rfl (hown.alloc _) ⟨wr.heap.size, 0, none⟩ 1 1 [.int .u32 (d : Int)] rfl rfl (cell_one_new _ _ _) (by simp [Value.oneCell']) (by unfold maxLen; omega) (by omega) (by simp; omega) ?_; intro v' w1 hown1 hgrow _; rw [← hsucc] at hown1))
   go_ret
   exact NRet.of hown1 hr hbk (hnx.trans (((Below.refl _ wr).alloc hsz _).grown hgrow (by simp; omega) (ownsRow_own hown)))
end Go.Proofs.YtngiodcdelfdmaaGreatDoor
namespace Go.Proofs.YtngiodcdelfdmaaGreatDoor
set_option linter.unusedVariables false
open Go.RowKit Go.Shelf
attribute [local go_sem] Oper.semAt_some
theorem or_high {x y : Nat} (hx : x < 4294967296) (hy : y < 4294967296) : bits .or .u64 (x : Int) ((y : Int) * 4294967296) = ((x + 4294967296 * y : Nat) : Int) := by
 rw [show (y : Int) * 4294967296 = ((y * 4294967296 : Nat) : Int) by rw [Int.natCast_mul]; rfl, u64_or_nat _ _ (by omega) (by omega)]
 have h := cyS_or (c := x) (y := y) (s := 32) (by omega)
 rw [show (4294967296 : Nat) = 2 ^ 32 by decide, h, Nat.mul_comm y]
set_option maxRecDepth 100000 in
set_option maxHeartbeats 1000000 in
theorem Shr_c (w : World) (va : Value) (a n : Nat) (hn : n ≤ 1073741824) (ha : dlenN a ≤ 34000000) (hA : RdX w va (dlenN a) a) :
  Calls Tryz.prog 119 #[va, .int .i64 (n : Int)] w (NRet w [va] (a / 2 ^ n)) := by
 obtain ⟨i0, hi, hz0, hz1, hz2⟩ := info_parts infoU32
 obtain ⟨ada, capa, rfl, hcell⟩ := hA.any
 have hxa := lt_dlen a
 generalize dlenN a = la at *
 go_enter Tryz.func119, Tryz.ntmps119
 go_wp2
 go_loopw [5, 6] (fun out i wr => ∃ k : Nat, (k = 0 ∨ n / 32 + k ≤ la) ∧ i = .int .i64 ((n : Int) / 32 + (k : Int)) ∧ wr.ownsRow w.heap.size 142 1 out k (rawV k (a / 2 ^ n)) ∧ Below w.heap.size w wr)
  (fun _ i _ => la - (intOf i).toNat)
 case atStart => exact ⟨0, .inl rfl, by simp, World.ownsRow_nil _ _ _ _, Below.refl _ _⟩
 case round =>
  obtain ⟨k, hk, rfl, hown, hnx⟩ := hrel
  have hAr := hA.bel hnx
  by_cases hlt : n / 32 + k < la
  ·obtain ⟨b, off, rfl, hb, hcl⟩ := hcell (by omega)
   obtain ⟨i, hi'⟩ : ∃ i : Nat, n / 32 + k = i := ⟨_, rfl⟩
   have hiI : (n : Int) / 32 + (k : Int) = (i : Int) := by omega
   rw [hiI]
   have hcx := (hnx.cell (p := ⟨b, off + i, none⟩) hb).trans (hcl i (by omega))
   unfold dV at hcx
   rw [show Int.ofNat (dg a i) = ((dg a i : Nat) : Int) from rfl] at hcx
   have b2 := dg_lt a i
   have b3 := dg_lt a (i + 1)
   have hdd : ∀ m, Calls Tryz.prog 152 #[.slice (some ⟨b, off, none⟩) la capa, .int .i64 ((i : Int) + 1)] (wr.drewN m) fun e w' => e = .returned (.int .u32 (dg a (i + 1) : Int)) ∧ w' = wr.drewN m := fun m => by
    have := digit_c (wr.drewN m) _ la a (i + 1) (by omega) (by omega) hxa (hAr.bel ((Bel.refl _).drewN _))
    rw [show ((i + 1 : Nat) : Int) = (i : Int) + 1 by omega] at this
    exact this.mono fun e w' h => ⟨h.1, h.2.symm⟩
   have q1 : (i : Int) < (la : Int) := by omega
   have hst : 2 ^ (n % 32) * 2 ^ (32 - n % 32) = B32 := by rw [← Nat.pow_add, B32_pow]; congr 1; omega
   have hdg : (dg a i + B32 * dg a (i + 1)) / 2 ^ (n % 32) % B32 = dg (a / 2 ^ n) k := by
    rw [dg_shr hst, pow_split n, dg_down, hi']
   generalize dg a i = x at *
   generalize dg a (i + 1) = y at *
   unfold B32 at b2 b3 hdg
   have hor := or_high b2 b3
   generalize x + 4294967296 * y = V at *
   have ez : (V : Int) / 2 ^ (n % 32) % 4294967296 = ((dg (a / 2 ^ n) k : Nat) : Int) := by
    rw [← hdg]; simp only [Int.natCast_emod, Int.natCast_ediv, Int.natCast_pow]; rfl
   have hsz := hnx.size
   have hlen : k + 1 ≤ 34000000 := by omega
   go_wp2_with fail
   go_quiet ((go_at_call 152; with_reducible exact Calls.quiet_of_same (hdd _)))
   have hown2 : (wr.drewN nq).ownsRow w.heap.size 142 1 _ k (rawV k (a / 2 ^ n)) := hown
   have hnx2 : Below w.heap.size w (wr.drewN nq) := ⟨hnx.os, hnx.tape, hnx.output, hnx.size, hnx.block⟩
   have hsz2 : w.heap.size ≤ (wr.drewN nq).heap.size := hsz
   clear hown hnx hsz hor hdd hAr hcell
   generalize wr.drewN nq = w2 at *
   go_wp2_with (at_builtin; refine wpList_append_own _ rfl (.tmp 28) (.tmp 34) 65 rfl w.heap.size 142 i0 (.int .u32 0) 1 4 Tryz.underlying65 hi hz0 hz1 hz2 rfl (by decide) _ _ _ rfl (hown2.alloc _) ⟨w2.heap.size, 0, none⟩ 1 1 [.int .u32 ((dg (a / 2 ^ n) k : Nat) : Int)] rfl rfl (cell_one_new _ _ _) (by simp [Value.oneCell']) (by unfold maxLen; omega) (by omega) (by simp; omega) ?_; intro v' w1 hown1 hgrow _)
   go_roundw
   case rel => exact ⟨k + 1, by omega, by congr 1; omega, by rw [rawV_succ]; exact hown1, hnx2.trans (((Below.refl _ w2).alloc hsz2 _).grown hgrow (by simp; omega) (ownsRow_own hown2))⟩
   case measure => simp [intOf]; omega
  ·have l3 : a / 2 ^ n < B32 ^ k := by
    rw [Nat.div_lt_iff_lt_mul (Nat.two_pow_pos n), pow_split n, ← Nat.mul_assoc, ← Nat.pow_add]
    refine Nat.lt_of_lt_of_le hxa (Nat.le_trans (Nat.pow_le_pow_right B32_pos (show la ≤ k + n / 32 by omega)) ?_)
    exact Nat.le_mul_of_pos_right _ (Nat.two_pow_pos _)
   have hmk : k ≤ 70000000 := by omega
   have q1 : ¬ ((n : Int) / 32 + (k : Int) < (la : Int)) := by omega
   go_wp2_with (go_at_call 153; with_reducible refine (Trim_c _ _ _ _ hmk l3 (rdx_of_own hown) (own_cap hown)).mono ?_; rintro e w' ⟨u, rfl, hr, hbk, rfl⟩)
   go_ret
   exact NRet.of hown hr hbk hnx
end Go.Proofs.YtngiodcdelfdmaaGreatDoor
namespace Go.Proofs.YtngiodcdelfdmaaGreatDoor
set_option linter.unusedVariables false
open Go.RowKit Go.Shelf
attribute [local go_sem] Oper.semAt_some
set_option maxRecDepth 100000 in
set_option maxHeartbeats 1000000 in
theorem Cmp_c (w : World) (va vb : Value) (a b : Nat) (ha : dlenN a ≤ 34000000) (hb : dlenN b ≤ 34000000) (hA : RdX w va (dlenN a) a) (hB : RdX w vb (dlenN b) b) :
  Calls Tryz.prog 51 #[va, vb] w fun e w' => e = .returned (.int .i64 (cmpI a b)) ∧ Bel w w' := by
 obtain ⟨ada, capa, rfl, hcA⟩ := hA.any
 obtain ⟨adb, capb, rfl, hcB⟩ := hB.any
 have hxa := lt_dlen a
 have hxb := lt_dlen b
 by_cases he : dlenN a = dlenN b
 ·rw [← he] at hcB hxb ⊢
  clear hA hB he hb
  generalize dlenN a = l at *
  go_enter Tryz.func51, Tryz.ntmps51
  go_wp2
  go_loopw [5] (fun i wr => ∃ j : Nat, j ≤ l ∧ i = .int .i64 ((j : Int) - 1) ∧ a / B32 ^ j = b / B32 ^ j ∧ Bel w wr) (fun i _ => (intOf i + 1).toNat)
  case atStart => exact ⟨l, Nat.le_refl _, rfl, by rw [Nat.div_eq_of_lt hxa, Nat.div_eq_of_lt hxb], Bel.refl _⟩
  case round =>
   obtain ⟨j, hj, rfl, hq, hnx⟩ := hrel
   rcases Nat.eq_zero_or_pos j with rfl | h0
   ·have hab : a = b := by simpa using hq
    have hc : cmpI a b = 0 := by rw [hab]; exact cmpI_self b
    go_wp2
    go_ret
    exact ⟨by first | rfl | (rw [hc]; rfl), hnx⟩
   ·obtain ⟨i, rfl⟩ : ∃ i, j = i + 1 := ⟨j - 1, by omega⟩
    obtain ⟨ba, oa, rfl, hba, hca⟩ := hcA (by omega)
    obtain ⟨bb, ob, rfl, hbb, hcb⟩ := hcB (by omega)
    have c1 := (hnx.cell ba (oa + i) hba).trans (hca i (by omega))
    have c2 := (hnx.cell bb (ob + i) hbb).trans (hcb i (by omega))
    unfold dV at c1 c2
    rw [show Int.ofNat (dg a i) = ((dg a i : Nat) : Int) from rfl] at c1
    rw [show Int.ofNat (dg b i) = ((dg b i : Nat) : Int) from rfl] at c2
    have q0 : ((i + 1 : Nat) : Int) - 1 = (i : Int) := by omega
    rw [q0]
    have q1 : (i : Int) < (l : Int) := by omega
    have k1 := @lt_at a b i hq
    have k2 := @lt_at b a i hq.symm
    have k3 := @eq_at a b i hq
    clear hca hcb hcA hcB
    generalize dg a i = x at *
    generalize dg b i = y at *
    go_wp2_with fail
    go_quiet (fail)
    have hnx2 : Bel w (wr.drewN nq) := hnx.drewN nq
    rcases Nat.lt_trichotomy x y with h | h | h
    ·have hc := cmpI_lt (k1 h)
     have h1 : decide (x < y) = true := decide_eq_true h
     go_wp2
     go_ret
     exact ⟨by first | rfl | (rw [hc]; rfl), hnx2⟩
    ·have k4 := k3 h
     have h1 : decide (x < y) = false := decide_eq_false (by omega)
     have h2 : decide (y < x) = false := decide_eq_false (by omega)
     clear k1 k2 k3 hq
     go_wp2_with fail
     go_quiet (fail)
     go_wp2
     go_roundw
     case rel => exact ⟨i, by omega, by rfl, k4, hnx.drewN _⟩
     case measure => first | (simp [intOf]; done) | (simp [intOf]; omega)
    ·have hc := cmpI_gt (k2 h)
     have h1 : decide (x < y) = false := decide_eq_false (by omega)
     have h2 : decide (y < x) = true := decide_eq_true h
     go_wp2_with fail
     go_quiet (fail)
     go_wp2
     go_ret
     exact ⟨by first | rfl | (rw [hc]; rfl), by first | exact hnx.drewN _ | exact hnx2.drewN _⟩
 ·rcases Nat.lt_or_gt_of_ne he with h | h
  ·have hc := cmpI_lt (lt_len h)
   have q1 : ((dlenN a : Nat) : Int) < (dlenN b : Int) := by omega
   have q2 : (((dlenN a : Nat) : Int) != (dlenN b : Int)) = true := by simp; omega
   clear hA hB hcA hcB hxa hxb
   generalize dlenN a = la at *
   generalize dlenN b = lb at *
   go_enter Tryz.func51, Tryz.ntmps51
   go_wp2
   go_ret
   exact ⟨by first | rfl | (rw [hc]; rfl), Bel.refl _⟩
  ·have hc := cmpI_gt (lt_len h)
   have q1 : ¬ ((dlenN a : Nat) : Int) < (dlenN b : Int) := by omega
   have q2 : (((dlenN a : Nat) : Int) != (dlenN b : Int)) = true := by simp; omega
   clear hA hB hcA hcB hxa hxb
   generalize dlenN a = la at *
   generalize dlenN b = lb at *
   go_enter Tryz.func51, Tryz.ntmps51
   go_wp2
   go_ret
   exact ⟨by first | rfl | (rw [hc]; rfl), Bel.refl _⟩
theorem bit_word {x i s : Nat} (hx : x < 4294967296) (hs : s < 32) : (bits .and .u32 ((x : Int) / 2 ^ s) 1 == 1) = x.testBit s := by
 have e : (x : Int) / 2 ^ s = ((x / 2 ^ s : Nat) : Int) := by rw [Int.natCast_ediv, Int.natCast_pow]; rfl
 have h := u32_and_nat (x / 2 ^ s) 1 (Nat.lt_of_le_of_lt (Nat.div_le_self _ _) hx) (by decide)
 rw [e, show (1 : Int) = ((1 : Nat) : Int) from rfl, h, nat_mask1, Nat.testBit_eq_decide_div_mod_eq]
 rw [Bool.eq_iff_iff, beq_iff_eq, decide_eq_true_eq]
 omega
set_option maxRecDepth 100000 in
set_option maxHeartbeats 1000000 in
theorem Bit_c (w : World) (va : Value) (a i : Nat) (hi : i ≤ 1073741824) (ha : dlenN a ≤ 34000000) (hA : RdX w va (dlenN a) a) :
  Calls Tryz.prog 99 #[va, .int .i64 (i : Int)] w fun e w' => e = .returned (.bool (a.testBit i)) ∧ w = w' := by
 have hxa := lt_dlen a
 have hd := digit_c w va (dlenN a) a (i / 32) (by omega) (by omega) hxa hA
 rw [show ((i / 32 : Nat) : Int) = (i : Int) / 32 by omega] at hd
 have hb := bit_word (i := i) (x := dg a (i / 32)) (s := i % 32) (by have := dg_lt a (i / 32); unfold B32 at this; exact this) (by omega)
 rw [dg_testBit a (i / 32) (i % 32) (by omega), show 32 * (i / 32) + i % 32 = i by omega] at hb
 generalize dg a (i / 32) = x at *
 have q0 : (i : Int) ≥ 0 := by omega
 clear hxa hA
 go_enter Tryz.func99, Tryz.ntmps99
 go_wp2_with (go_at_call 152; with_reducible refine hd.mono ?_; rintro e w' ⟨rfl, rfl⟩)
 go_ret
 exact ⟨rfl, rfl⟩
end Go.Proofs.YtngiodcdelfdmaaGreatDoor
namespace Go.Proofs.YtngiodcdelfdmaaGreatDoor
set_option linter.unusedVariables false
open Go.RowKit Go.Shelf
attribute [local go_sem] Oper.semAt_some
theorem big_dg {h l : Nat} (hh : h < 18446744073709551616) (hl : l < 18446744073709551616) :
  ((dg (h * 18446744073709551616 + l) 0 : Nat) : Int) = (l : Int) % 4294967296 ∧ ((dg (h * 18446744073709551616 + l) 1 : Nat) : Int) = (l : Int) / 4294967296 ∧ ((dg (h * 18446744073709551616 + l) 2 : Nat) : Int) = (h : Int) % 4294967296 ∧ ((dg (h * 18446744073709551616 + l) 3 : Nat) : Int) = (h : Int) / 4294967296 := by
 have e2 : (h * 18446744073709551616 + l) / B32 ^ 2 = h := by
  rw [show B32 ^ 2 = 18446744073709551616 by decide]; omega
 refine ⟨?_, ?_, ?_, ?_⟩
 ·rw [dg_zero]; unfold B32; omega
 ·unfold dg; rw [Nat.pow_one]; unfold B32; omega
 ·unfold dg; rw [e2]; unfold B32; omega
 ·unfold dg; rw [show B32 ^ 3 = B32 ^ 2 * B32 from rfl, ← Nat.div_div_eq_div_mul, e2]; unfold B32; omega
theorem four_of {P : Nat → Prop} (h0 : P 0) (h1 : P 1) (h2 : P 2) (h3 : P 3) : ∀ j, j < 4 → P j := fun j hj => by
 rcases (show j = 0 ∨ j = 1 ∨ j = 2 ∨ j = 3 by omega) with rfl | rfl | rfl | rfl <;> assumption
set_option maxRecDepth 100000 in
set_option maxHeartbeats 1000000 in
theorem Big_c (w : World) (h l : Nat) (hh : h < 18446744073709551616) (hl : l < 18446744073709551616) : Calls Tryz.prog 73 #[.agg #[.int .u64 (h : Int), .int .u64 (l : Int)]] w (NRet w [] (h * 18446744073709551616 + l)) := by
 obtain ⟨d0, d1, d2, d3⟩ := big_dg hh hl
 have hx : h * 18446744073709551616 + l < B32 ^ 4 := by rw [show B32 ^ 4 = 340282366920938463463374607431768211456 by decide]; omega
 have hR : ∀ W : World, RdX (W.alloc (.cells #[.int .u32 ((l : Int) % 4294967296), .int .u32 ((l : Int) / 4294967296), .int .u32 ((h : Int) % 4294967296), .int .u32 ((h : Int) / 4294967296)] 142)) (.slice (some ⟨W.heap.size, 0, none⟩) 4 4) 4 (h * 18446744073709551616 + l) := fun W => by
  refine RdX.some (by simp) (four_of ?_ ?_ ?_ ?_)
  ·rw [show dV (h * 18446744073709551616 + l) 0 = .int .u32 ((l : Int) % 4294967296) by unfold dV; rw [← d0]; rfl]; unfold World.cell?; simp only [World.alloc_heap_new]; rfl
  ·rw [show dV (h * 18446744073709551616 + l) 1 = .int .u32 ((l : Int) / 4294967296) by unfold dV; rw [← d1]; rfl]; unfold World.cell?; simp only [World.alloc_heap_new]; rfl
  ·rw [show dV (h * 18446744073709551616 + l) 2 = .int .u32 ((h : Int) % 4294967296) by unfold dV; rw [← d2]; rfl]; unfold World.cell?; simp only [World.alloc_heap_new]; rfl
  ·rw [show dV (h * 18446744073709551616 + l) 3 = .int .u32 ((h : Int) / 4294967296) by unfold dV; rw [← d3]; rfl]; unfold World.cell?; simp only [World.alloc_heap_new]; rfl
 have hR1 := hR (w.alloc (.cells #[.int .u64 (h : Int), .int .u64 (l : Int)] 28))
 rw [show (w.alloc (.cells #[.int .u64 (h : Int), .int .u64 (l : Int)] 28)).heap.size = w.heap.size + 1 by simp] at hR1
 have q1 : (l : Int) / 4294967296 < 4294967296 := by omega
 have q2 : (h : Int) / 4294967296 < 4294967296 := by omega
 clear hR d0 d1 d2 d3
 generalize h * 18446744073709551616 + l = X at *
 go_enter Tryz.func73, Tryz.ntmps73
 go_wp2_with (go_at_call 153; with_reducible refine (Trim_c _ _ 4 X (by omega) hx hR1 (fun ad n c h => by cases h; exact Nat.le_refl _)).mono ?_; rintro e w' ⟨u, rfl, hr, hbk, rfl⟩)
 go_ret
 exact ⟨_, rfl, hr, fun b h => (by have h2 : some (w.heap.size + 1) = some b := hbk b h; cases h2; omega), ((Bel.refl w).alloc _).alloc _⟩
def mixV (N X Y t : Nat) : List Value := (List.range N).map fun j => if j < t then dV Y j else dV X j
theorem mixV_get {N X Y t j : Nat} (h : j < N) : (mixV N X Y t)[j]? = some (if j < t then dV Y j else dV X j) := by simp [mixV, h]
theorem mixV_set {N X Y t : Nat} (h : t < N) : (mixV N X Y t).set t (dV Y t) = mixV N X Y (t + 1) := by
 apply List.ext_getElem?
 intro j
 rw [List.getElem?_set]
 by_cases hj : j < N
 ·rw [mixV_get (t := t + 1) hj]
  by_cases e : t = j
  ·subst e; rw [if_pos rfl, if_pos (by simpa [mixV] using h), if_pos (Nat.lt_succ_self _)]
  ·rw [if_neg e, mixV_get hj]
   by_cases h2 : j < t
   ·rw [if_pos h2, if_pos (by omega)]
   ·rw [if_neg h2, if_neg (by omega)]
 ·have hn : ∀ t', (mixV N X Y t')[j]? = none := fun t' => by simp [mixV]; omega
  rw [hn, hn, if_neg (by omega)]
theorem mixV_lo {N X Y t : Nat} (h : ∀ j, j < t → dg Y j = dg X j) : mixV N X Y t = rawV N X := by
 unfold mixV rawV
 apply List.map_congr_left
 intro j _
 split
 ·rename_i h1; unfold dV; rw [h j h1]
 ·rfl
theorem mixV_hi {N X Y t : Nat} (h : ∀ j, t ≤ j → dg X j = dg Y j) : mixV N X Y t = rawV N Y := by
 unfold mixV rawV
 apply List.map_congr_left
 intro j _
 split
 ·rfl
 ·rename_i h1; unfold dV; rw [h j (by omega)]
theorem mX_low {a b i j : Nat} (h : j < i) : dg (mX a b (i + 1)) j = dg (mX a b i) j := by
 rw [mX_succ]
 generalize dg a i * b = z
 generalize mX a b i = x
 have e : B32 ^ i * z = B32 ^ j * (B32 * (B32 ^ (i - j - 1) * z)) := by
  rw [← Nat.mul_assoc, ← Nat.mul_assoc, ← Nat.pow_succ, ← Nat.pow_add]; congr 2; omega
 unfold dg
 rw [e, Nat.add_mul_div_left _ _ (B32_pp j), Nat.add_mul_mod_self_left]
theorem mul_word {x y : Nat} (hx : x < 4294967296) (hy : y < 4294967296) : IntKind.u64.wrap ((x : Int) * (y : Int)) = ((x * y : Nat) : Int) ∧ x * y ≤ 18446744065119617025 := by
 have h : x * y ≤ 4294967295 * 4294967295 := Nat.mul_le_mul (by omega) (by omega)
 refine ⟨?_, by omega⟩
 rw [← Int.natCast_mul, w64_u]
 exact u64_nat' _ (by unfold W64; omega)
set_option maxRecDepth 100000 in
set_option maxHeartbeats 2000000 in
theorem Mul_c (w : World) (va vb : Value) (a b : Nat) (ha : dlenN a ≤ 34000000) (hb : dlenN b ≤ 34000000) (hA : RdX w va (dlenN a) a) (hB : RdX w vb (dlenN b) b) :
  Calls Tryz.prog 72 #[va, vb] w (NRet w [va, vb] (a * b)) := by
 obtain ⟨i0, hi, hz0, hz1, hz2⟩ := info_parts infoU32
 obtain ⟨ada, capa, rfl, hcA⟩ := hA.any
 obtain ⟨adb, capb, rfl, _⟩ := hB.any
 have hxa := lt_dlen a
 have hxb := lt_dlen b
 generalize dlenN a = la at *
 generalize dlenN b = lb at *
 go_enter Tryz.func72, Tryz.ntmps72
 go_wp2_with (at_make; refine wpList_make_full _ rfl (.tmp 14) (.tmp 14) 65 rfl w.heap.size 142 i0 (.int .u32 0) 1 Tryz.underlying65 hi hz0 hz1 .i64 .i64 ((la : Int) + lb + 1) ((la : Int) + lb + 1) (la + lb + 1) rfl rfl (by omega) (by omega) (by rw [hz2]; omega) (by unfold maxLen; omega) (Nat.le_refl _) ?_; intro w1 hown0 hgrow0)
 have hB1 : Below w.heap.size w w1 := (Below.refl _ w).grown hgrow0 (Nat.le_refl _) (fun k hk => by cases hk)
 have hz : (madeCells (Value.int .u32 0).cells ((la + lb + 1) * 1)).toList = rawV (la + lb + 1) (mX a b 0) := by
  rw [mX_zero, show (Value.int .u32 0).cells = #[Value.int .u32 0] from rfl, toList_madeCells_one, Nat.mul_one]
  symm
  unfold rawV
  rw [List.eq_replicate_iff]
  refine ⟨by simp, fun b hb => ?_⟩
  obtain ⟨j, hj, rfl⟩ := List.mem_map.1 hb
  unfold dV
  rw [dg_big (B32_pp j)]; rfl
 rw [hz] at hown0
 clear hz
 obtain ⟨N, hN⟩ : ∃ N, la + lb + 1 = N := ⟨_, rfl⟩
 rw [hN] at hown0 ⊢
 go_loopw [6] (fun i wr => ∃ k : Nat, k ≤ la ∧ i = .int .i64 (k : Int) ∧ wr.ownsRow w.heap.size 142 1 (.slice (some ⟨w.heap.size, 0, none⟩) N N) N (rawV N (mX a b k)) ∧ Below w.heap.size w wr)
  (fun i _ => la - (intOf i).toNat)
 case atStart => exact ⟨0, Nat.zero_le _, rfl, hown0, hB1⟩
 case round =>
  clear hown0 hB1 hgrow0
  obtain ⟨i, hi', rfl, hown, hnx⟩ := hrel
  by_cases hlt : i < la
  ·obtain ⟨ba, oa, rfl, hba, hca⟩ := hcA (by omega)
   have q1 : (i : Int) < (la : Int) := by omega
   rw [← mixV_lo (Y := mX a b (i + 1)) (fun j hj => mX_low hj)] at hown
   go_wp2
   go_loopw [7, 8] (fun c k w2 => ∃ j : Nat, j ≤ lb + 1 ∧ k = .int .i64 (j : Int) ∧ c = .int .u64 (cyM a b i j : Int) ∧ w2.ownsRow w.heap.size 142 1 (.slice (some ⟨w.heap.size, 0, none⟩) N N) N (mixV N (mX a b i) (mX a b (i + 1)) (i + j)) ∧ Below w.heap.size w w2)
    (fun _ k _ => lb + 1 - (intOf k).toNat)
   case atStart => exact ⟨0, Nat.zero_le _, rfl, by rw [cyM_zero]; rfl, hown, hnx⟩
   case round =>
    clear hown hnx
    obtain ⟨j, hj, rfl, rfl, hown, hnx⟩ := hrel
    have hiN : i + j < N ∨ cyM a b i j = 0 ∧ lb ≤ j := by
     rcases Nat.lt_or_ge j (lb + 1) with h | h
     ·left; omega
     ·right
      have : j = lb + 1 := by omega
      subst this
      exact ⟨cyM_end hxb, by omega⟩
    by_cases hend : lb ≤ j ∧ cyM a b i j = 0
    ·have hx := mixV_hi (N := N) (X := mX a b i) (Y := mX a b (i + 1)) (t := i + j) (fun r hr => mX_rest (Nat.lt_of_lt_of_le hxb (Nat.pow_le_pow_right B32_pos hend.1)) hend.2 hr)
     rw [hx] at hown
     have hc0 := hend.2
     have q2 : ¬ (j : Int) < (lb : Int) := by omega
     rw [hc0]
     go_wp2
     go_roundw
     case rel => exact ⟨i + 1, by omega, by go_num, hown, hnx⟩
     case measure => simp [intOf]; omega
    ·have hlj : i + j < N := by
      rcases hiN with h | h
      ·exact h
      ·exact absurd ⟨h.2, h.1⟩ hend
     have hjl : j < lb + 1 := by
      apply Nat.lt_of_not_le; intro hge
      have : j = lb + 1 := by omega
      subst this
      exact hend ⟨by omega, cyM_end hxb⟩
     have c1 := (hnx.cell (p := ⟨ba, oa + i, none⟩) hba).trans (hca i (by omega))
     have c2 := (World.ownsRow.cellAt hown (i + j) (by omega)).trans (mixV_get hlj)
     rw [if_neg (Nat.lt_irrefl _)] at c2
     have f2 := World.ownsRow.frozenAt hown (i + j)
     have hset := World.ownsRow.stored hown (i + j) (dV (mX a b (i + 1)) (i + j))
     rw [mixV_set hlj] at hset
     have b1 := cyM_lt a b i j
     have b2 := dg_lt a i
     have b3 := dg_lt b j
     have b4 := dg_lt (mX a b i) (i + j)
     have e1 := cyM_dg a b i j
     have e2 := cyM_succ a b i j
     have hBr := hB.bel (hnx : Bel w wr)
     unfold dV at c1 c2 hset
     rw [show Int.ofNat (dg a i) = ((dg a i : Nat) : Int) from rfl] at c1
     rw [show Int.ofNat (dg (mX a b i) (i + j)) = ((dg (mX a b i) (i + j) : Nat) : Int) from rfl] at c2
     rw [show Int.ofNat (dg (mX a b (i + 1)) (i + j)) = ((dg (mX a b (i + 1)) (i + j) : Nat) : Int) from rfl] at hset
     have hdd : ∀ m, Calls Tryz.prog 152 #[.slice adb lb capb, .int .i64 (j : Int)] (wr.drewN m) fun e w' => e = .returned (.int .u32 (dg b j : Int)) ∧ w' = wr.drewN m := fun m =>
      (digit_c (wr.drewN m) _ lb b j (by omega) (by omega) hxb (hBr.bel ((Bel.refl _).drewN _))).mono fun e w' h => ⟨h.1, h.2.symm⟩
     generalize dg a i = x at *
     generalize dg b j = y at *
     generalize dg (mX a b i) (i + j) = z at *
     generalize hD : dg (mX a b (i + 1)) (i + j) = D at *
     unfold B32 at b1 b2 b3 b4 e1
     obtain ⟨m1, m2⟩ := mul_word b2 b3
     have qc : (j : Int) < (lb : Int) ∨ (¬ (j : Int) < (lb : Int) ∧ (cyM a b i j : Int) > 0) := by omega
     have hc' : ((cyM a b i (j + 1) : Nat) : Int) = ((cyM a b i j : Nat) + ((x * y : Nat) + z : Nat) : Int) / 4294967296 := by rw [← e2]; unfold B32; omega
     generalize cyM a b i j = c at *
     generalize hcy : cyM a b i (j + 1) = c' at *
     have hcy := Lib.hid hcy
     generalize x * y = P at *
     have ez : ((c : Int) + P + z) % 4294967296 = (D : Int) := by omega
     have ec : ((c : Int) + P + z) / 4294967296 = (c' : Int) := by omega
     have qi : ((i : Int) + j) < (N : Int) := by omega
     clear e1 e2 hc'
     rcases qc with q2 | ⟨q2, q3⟩
     all_goals
      go_wp2_with fail
      go_quiet ((go_at_call 152; with_reducible exact Calls.quiet_of_same (hdd _)))
      clear hdd
      go_wp2_with fail
      refine ⟨⟨j + 1, by omega, by go_num, by rw [hcy.out], ?_, ?_⟩, by simp [intOf]; omega⟩
      ·rw [← Nat.add_assoc]; exact hset.1
      ·exact (show Below w.heap.size w (wr.drewN nq) from ⟨hnx.os, hnx.tape, hnx.output, hnx.size, hnx.block⟩).setCell (p := ⟨w.heap.size, i + j, none⟩) (Nat.le_refl _) _
  ·obtain rfl : i = la := by omega
   rw [mX_end hxa] at hown
   have l3 : a * b < B32 ^ N := by
    rw [← hN, Nat.pow_succ, Nat.pow_add]
    exact Nat.lt_of_lt_of_le (Nat.mul_lt_mul'' hxa hxb) (Nat.le_mul_of_pos_right _ B32_pos)
   have hmk : N ≤ 70000000 := by omega
   have q1 : ¬ (i : Int) < (i : Int) := by omega
   go_wp2_with (go_at_call 153; with_reducible refine (Trim_c _ _ _ _ hmk l3 (rdx_of_own hown) (own_cap hown)).mono ?_; rintro e w' ⟨u, rfl, hr, hbk, rfl⟩)
   go_ret
   exact NRet.of hown hr hbk hnx
end Go.Proofs.YtngiodcdelfdmaaGreatDoor
namespace Go.Proofs.YtngiodcdelfdmaaGreatDoor
set_option linter.unusedVariables false
set_option linter.unusedSimpArgs false
set_option maxRecDepth 100000
open Go.RowKit
def gN (l : List Int) (i : Nat) : Nat := (getI l i).toNat
def gU (l : List Int) (i : Nat) : Nat := (IntKind.u64.wrap (getI l i)).toNat
def gW (l : List Int) (i : Nat) : Int := IntKind.i64.wrap (getI l i)
theorem gU_lt (l : List Int) (i : Nat) : gU l i < 18446744073709551616 := by
 unfold gU IntKind.wrap IntKind.bits IntKind.signed; simp; omega
theorem gU_wrap (l : List Int) (i : Nat) : IntKind.u64.wrap (getI l i) = (gU l i : Int) := by
 unfold gU IntKind.wrap IntKind.bits IntKind.signed; simp; omega
def okS (a : Nat) (n : Int) : Bool := okN a && (decide (0 ≤ n) && decide (n ≤ 1073741824))
theorem okS_of {a : Nat} {n : Int} (h : okS a n = true) : dlenN a ≤ 34000000 ∧ ∃ k : Nat, n = (k : Int) ∧ k ≤ 1073741824 := by
 unfold okS at h
 simp only [Bool.and_eq_true, decide_eq_true_eq] at h
 have := okN_dlen h.1
 exact ⟨by omega, n.toNat, by omega, by omega⟩
theorem okN_d {a : Nat} (h : okN a = true) : dlenN a ≤ 34000000 := by have := okN_dlen h; omega
def fOf (l : List Int) : List Int := [(gU l 0 : Int)]
def fBig (l : List Int) : List Int := [((gU l 0 * 18446744073709551616 + gU l 1 : Nat) : Int)]
def fCmp (l : List Int) : List Int := if (okN (gN l 0) && okN (gN l 1)) = true then [cmpI (gN l 0) (gN l 1)] else []
def fAdd (l : List Int) : List Int := if (okN (gN l 0) && okN (gN l 1)) = true then [((gN l 0 + gN l 1 : Nat) : Int)] else []
def fSub (l : List Int) : List Int := if (okN (gN l 0) && decide (gN l 1 ≤ gN l 0)) = true then [((gN l 0 - gN l 1 : Nat) : Int)] else []
def fMul (l : List Int) : List Int := if (okN (gN l 0) && okN (gN l 1)) = true then [((gN l 0 * gN l 1 : Nat) : Int)] else []
def fLen (l : List Int) : List Int := if okN (gN l 0) = true then [(lenX (gN l 0) : Int)] else []
def fShl (l : List Int) : List Int := if okS (gN l 0) (gW l 1) = true then [((gN l 0 * 2 ^ (gW l 1).toNat : Nat) : Int)] else []
def fShr (l : List Int) : List Int := if okS (gN l 0) (gW l 1) = true then [((gN l 0 / 2 ^ (gW l 1).toNat : Nat) : Int)] else []
def fBit (l : List Int) : List Int := if okS (gN l 0) (gW l 1) = true then [b2i ((gN l 0).testBit (gW l 1).toNat)] else []
theorem fit_one {w : World} {l : List Int} {fvs : List Value} {k : VK} (h : FitL w [k] l fvs) : ∃ n v, l = [n] ∧ fvs = [v] ∧ FitX w k n v := by
 match l, fvs, h with
 | [n], [v], h => exact ⟨n, v, rfl, rfl, h.1⟩
 | [], fvs, h => cases fvs <;> exact h.elim
 | _ :: _ :: _, [], h => exact h.elim
 | _ :: _ :: _, _ :: [], h => exact h.2.elim
 | _ :: _ :: _, _ :: _ :: _, h => exact h.2.elim
 | [_], [], h => exact h.elim
 | [_], _ :: _ :: _, h => exact h.2.elim
theorem fit_two {w : World} {l : List Int} {fvs : List Value} {k k' : VK} (h : FitL w [k, k'] l fvs) : ∃ n m v u, l = [n, m] ∧ fvs = [v, u] ∧ FitX w k n v ∧ FitX w k' m u := by
 match l, fvs, h with
 | n :: l, v :: fvs, h =>
  obtain ⟨m, u, rfl, rfl, h2⟩ := fit_one h.2
  exact ⟨n, m, v, u, rfl, rfl, h.1, h2⟩
 | [], fvs, h => cases fvs <;> exact h.elim
 | _ :: _, [], h => exact h.elim
theorem ent_Of : EntNC Tryz.prog gG ⟨120, ⟨[.sc kU], [.sc .nat]⟩, fOf⟩ := by
 refine ⟨by decide, fun l _ _ => npc_nat Tryz.func120 (by kernel_rfl) (by kernel_rfl) fun w fvs _ hfit => ?_⟩
 obtain ⟨n, v, rfl, rfl, h1⟩ := fit_one hfit
 have e : v = .int .u64 (gU [n] 0 : Int) := by rw [← gU_wrap]; exact h1
 subst e
 exact (Of_c w _ (gU_lt [n] 0)).mono fun e w' h => h
theorem entNC_if {P : Program} {G : Glob} {g : FuncId} {a r : List Sh} {F v : List Int → List Int} {c : List Int → Bool} (hF : ∀ l, F l = if c l = true then v l else []) (hr : 0 < (kindsOf r).length) (h2 : natsIn (kindsOf r) ≤ 2) (h : ∀ l, c l = true → NPC P G g ⟨a, r⟩ l (v l)) : EntNC P G ⟨g, ⟨a, r⟩, F⟩ := by
 refine ⟨h2, fun l _ hl => ?_⟩
 show NPC P G g ⟨a, r⟩ l (F l)
 have hl : (F l).length = (kindsOf r).length := hl
 by_cases hc : c l = true
 ·rw [hF l, if_pos hc]; exact h l hc
 ·rw [hF l, if_neg hc] at hl
  simp only [List.length_nil] at hl; omega
theorem ent_Big : EntNC Tryz.prog gG ⟨73, ⟨[.agg [kU, kU]], [.sc .nat]⟩, fBig⟩ := by
 refine ⟨by decide, fun l _ _ => npc_nat Tryz.func73 (by kernel_rfl) (by kernel_rfl) fun w fvs _ hfit => ?_⟩
 obtain ⟨n, m, v, u, rfl, rfl, h1, h2⟩ := fit_two hfit
 have e1 : v = .int .u64 (gU [n, m] 0 : Int) := by rw [← gU_wrap]; exact h1
 have e2 : u = .int .u64 (gU [n, m] 1 : Int) := by rw [← gU_wrap]; exact h2
 subst e1; subst e2
 exact (Big_c w _ _ (gU_lt [n, m] 0) (gU_lt [n, m] 1)).mono fun e w' h => h
theorem ent_Cmp : EntNC Tryz.prog gG ⟨51, ⟨[.sc .nat, .sc .nat], [.sc (.int .i64)]⟩, fCmp⟩ := by
 refine entNC_if (v := fun l => [cmpI (gN l 0) (gN l 1)]) (fun _ => rfl) (by decide) (by decide) fun l h => ?_
 simp only [Bool.and_eq_true] at h
 have hw : IntKind.i64.wrap (cmpI (gN l 0) (gN l 1)) = cmpI (gN l 0) (gN l 1) := by
  unfold cmpI; split
  ·rfl
  ·split <;> rfl
 refine npc_val Tryz.func51 (by kernel_rfl) (by kernel_rfl) [.int .i64 (cmpI (gN l 0) (gN l 1))] (fun w => ⟨?_, trivial⟩) (fun v hv => by rw [List.mem_singleton.1 hv]; rfl) fun w fvs _ hfit => ?_
 ·show Value.int .i64 _ = .int .i64 (IntKind.i64.wrap _); rw [hw]
 ·obtain ⟨n, m, v, u, rfl, rfl, h1, h2⟩ := fit_two hfit
  exact (Cmp_c w v u _ _ (okN_d h.1) (okN_d h.2) (fit_nat h1) (fit_nat h2)).mono fun e w' h => h
theorem ent_Add : EntNC Tryz.prog gG ⟨122, ⟨[.sc .nat, .sc .nat], [.sc .nat]⟩, fAdd⟩ := by
 refine entNC_if (v := fun l => [((gN l 0 + gN l 1 : Nat) : Int)]) (fun _ => rfl) (by decide) (by decide) fun l h => ?_
 simp only [Bool.and_eq_true] at h
 refine npc_nat Tryz.func122 (by kernel_rfl) (by kernel_rfl) fun w fvs _ hfit => ?_
 obtain ⟨n, m, v, u, rfl, rfl, h1, h2⟩ := fit_two hfit
 exact (Add_c w v u _ _ (okN_d h.1) (okN_d h.2) (fit_nat h1) (fit_nat h2)).mono fun e w' h => h
theorem ent_Sub : EntNC Tryz.prog gG ⟨100, ⟨[.sc .nat, .sc .nat], [.sc .nat]⟩, fSub⟩ := by
 refine entNC_if (v := fun l => [((gN l 0 - gN l 1 : Nat) : Int)]) (fun _ => rfl) (by decide) (by decide) fun l h => ?_
 simp only [Bool.and_eq_true, decide_eq_true_eq] at h
 refine npc_nat Tryz.func100 (by kernel_rfl) (by kernel_rfl) fun w fvs _ hfit => ?_
 obtain ⟨n, m, v, u, rfl, rfl, h1, h2⟩ := fit_two hfit
 exact (Sub_c w v u _ _ h.2 (okN_d h.1) (fit_nat h1) (fit_nat h2)).mono fun e w' h => h
theorem ent_Mul : EntNC Tryz.prog gG ⟨72, ⟨[.sc .nat, .sc .nat], [.sc .nat]⟩, fMul⟩ := by
 refine entNC_if (v := fun l => [((gN l 0 * gN l 1 : Nat) : Int)]) (fun _ => rfl) (by decide) (by decide) fun l h => ?_
 simp only [Bool.and_eq_true] at h
 refine npc_nat Tryz.func72 (by kernel_rfl) (by kernel_rfl) fun w fvs _ hfit => ?_
 obtain ⟨n, m, v, u, rfl, rfl, h1, h2⟩ := fit_two hfit
 exact (Mul_c w v u _ _ (okN_d h.1) (okN_d h.2) (fit_nat h1) (fit_nat h2)).mono fun e w' h => h
theorem lenX_wrap {n : Nat} (h : okN n = true) : IntKind.i64.wrap (lenX n : Int) = (lenX n : Int) := by
 have h1 : Nat.log2 n < 1073741824 := by unfold okN at h; simpa [Nat.blt_eq] using h
 have h2 : lenX n ≤ 1073741824 := by unfold lenX; split <;> omega
 unfold IntKind.wrap IntKind.bits IntKind.signed; simp; omega
theorem ent_Len : EntNC Tryz.prog gG ⟨124, ⟨[.sc .nat], [.sc (.int .i64)]⟩, fLen⟩ := by
 refine entNC_if (v := fun l => [(lenX (gN l 0) : Int)]) (fun _ => rfl) (by decide) (by decide) fun l h => ?_
 refine npc_val Tryz.func124 (by kernel_rfl) (by kernel_rfl) [.int .i64 (lenX (gN l 0) : Int)] (fun w => ⟨?_, trivial⟩) (fun v hv => by rw [List.mem_singleton.1 hv]; rfl) fun w fvs _ hfit => ?_
 ·show Value.int .i64 _ = .int .i64 (IntKind.i64.wrap _); rw [lenX_wrap h]
 ·obtain ⟨n, v, rfl, rfl, h1⟩ := fit_one hfit
  exact (Len_c w v _ (okN_d h) (fit_nat h1)).mono fun e w' h => ⟨h.1, by rw [← h.2]; exact Bel.refl w⟩
theorem ent_Shl : EntNC Tryz.prog gG ⟨80, ⟨[.sc .nat, .sc (.int .i64)], [.sc .nat]⟩, fShl⟩ := by
 refine entNC_if (v := fun l => [((gN l 0 * 2 ^ (gW l 1).toNat : Nat) : Int)]) (fun _ => rfl) (by decide) (by decide) fun l h => ?_
 obtain ⟨h0, k, hk, hk2⟩ := okS_of h
 refine npc_nat Tryz.func80 (by kernel_rfl) (by kernel_rfl) fun w fvs _ hfit => ?_
 obtain ⟨n, m, v, u, rfl, rfl, h1, h2⟩ := fit_two hfit
 have e2 : u = .int .i64 (gW [n, m] 1) := h2
 rw [hk] at e2; subst e2
 rw [hk, Int.toNat_natCast]
 exact (Shl_c w v _ k hk2 h0 (fit_nat h1)).mono fun e w' h => h
theorem ent_Shr : EntNC Tryz.prog gG ⟨119, ⟨[.sc .nat, .sc (.int .i64)], [.sc .nat]⟩, fShr⟩ := by
 refine entNC_if (v := fun l => [((gN l 0 / 2 ^ (gW l 1).toNat : Nat) : Int)]) (fun _ => rfl) (by decide) (by decide) fun l h => ?_
 obtain ⟨h0, k, hk, hk2⟩ := okS_of h
 refine npc_nat Tryz.func119 (by kernel_rfl) (by kernel_rfl) fun w fvs _ hfit => ?_
 obtain ⟨n, m, v, u, rfl, rfl, h1, h2⟩ := fit_two hfit
 have e2 : u = .int .i64 (gW [n, m] 1) := h2
 rw [hk] at e2; subst e2
 rw [hk, Int.toNat_natCast]
 exact (Shr_c w v _ k hk2 h0 (fit_nat h1)).mono fun e w' h => h
theorem ent_Bit : EntNC Tryz.prog gG ⟨99, ⟨[.sc .nat, .sc (.int .i64)], [.sc .bool]⟩, fBit⟩ := by
 refine entNC_if (v := fun l => [b2i ((gN l 0).testBit (gW l 1).toNat)]) (fun _ => rfl) (by decide) (by decide) fun l h => ?_
 obtain ⟨h0, k, hk, hk2⟩ := okS_of h
 refine npc_val Tryz.func99 (by kernel_rfl) (by kernel_rfl) [.bool ((gN l 0).testBit k)] (fun w => ⟨?_, trivial⟩) (fun v hv => by rw [List.mem_singleton.1 hv]; rfl) fun w fvs _ hfit => ?_
 ·show Value.bool _ = .bool (b2i _ != 0); rw [b2i_ne, hk, Int.toNat_natCast]
 ·obtain ⟨n, m, v, u, rfl, rfl, h1, h2⟩ := fit_two hfit
  have e2 : u = .int .i64 (gW [n, m] 1) := h2
  rw [hk] at e2; subst e2
  exact (Bit_c w v _ k hk2 h0 (fit_nat h1)).mono fun e w' h => ⟨h.1, by rw [← h.2]; exact Bel.refl w⟩
theorem dg_wrap (n i : Nat) : IntKind.u32.wrap (dg n i : Int) = (dg n i : Int) := by
 have h := dg_lt n i
 unfold B32 at h
 unfold IntKind.wrap IntKind.bits IntKind.signed; simp; omega
def okD (a : Nat) (n : Int) : Bool := okN a && (decide (0 ≤ n) && decide (n ≤ 1000))
theorem ent_digit : EntNC Tryz.prog gG ⟨152, ⟨[.sc .nat, .sc (.int .i64)], [.sc (.int .u32)]⟩, fun l => if okD (gN l 0) (gW l 1) = true then [(dg (gN l 0) (gW l 1).toNat : Int)] else []⟩ := by
 refine entNC_if (v := fun l => [(dg (gN l 0) (gW l 1).toNat : Int)]) (c := fun l => okD (gN l 0) (gW l 1)) (fun _ => rfl) (by decide) (by decide) fun l h => ?_
 simp only [okD, Bool.and_eq_true, decide_eq_true_eq] at h
 obtain ⟨k, hk⟩ : ∃ k : Nat, gW l 1 = (k : Int) := ⟨(gW l 1).toNat, by omega⟩
 have h0 := okN_d h.1
 refine npc_val Tryz.func152 (by kernel_rfl) (by kernel_rfl) [.int .u32 (dg (gN l 0) k : Int)] (fun w => ⟨?_, trivial⟩) (fun v hv => by rw [List.mem_singleton.1 hv]; rfl) fun w fvs _ hfit => ?_
 ·show Value.int .u32 _ = .int .u32 (IntKind.u32.wrap _); rw [hk, Int.toNat_natCast, dg_wrap]
 ·obtain ⟨n, m, v, u, rfl, rfl, h1, h2⟩ := fit_two hfit
  have e2 : u = .int .i64 (gW [n, m] 1) := h2
  rw [hk] at e2; subst e2
  exact (digit_c w v (dlenN (gN [n, m] 0)) (gN [n, m] 0) k (by omega) (by omega) (lt_dlen _) (fit_nat h1)).mono fun e w' h => ⟨h.1, by rw [← h.2]; exact Bel.refl w⟩
def fDig (l : List Int) : List Int := if okD (gN l 0) (gW l 1) = true then [(dg (gN l 0) (gW l 1).toNat : Int)] else []
def N0 : List Ent := [⟨120, ⟨[.sc kU], [.sc .nat]⟩, fOf⟩, ⟨73, ⟨[.agg [kU, kU]], [.sc .nat]⟩, fBig⟩, ⟨51, ⟨[.sc .nat, .sc .nat], [.sc (.int .i64)]⟩, fCmp⟩, ⟨122, ⟨[.sc .nat, .sc .nat], [.sc .nat]⟩, fAdd⟩, ⟨100, ⟨[.sc .nat, .sc .nat], [.sc .nat]⟩, fSub⟩, ⟨72, ⟨[.sc .nat, .sc .nat], [.sc .nat]⟩, fMul⟩, ⟨124, ⟨[.sc .nat], [.sc (.int .i64)]⟩, fLen⟩, ⟨80, ⟨[.sc .nat, .sc (.int .i64)], [.sc .nat]⟩, fShl⟩, ⟨119, ⟨[.sc .nat, .sc (.int .i64)], [.sc .nat]⟩, fShr⟩, ⟨99, ⟨[.sc .nat, .sc (.int .i64)], [.sc .bool]⟩, fBit⟩, ⟨152, ⟨[.sc .nat, .sc (.int .i64)], [.sc (.int .u32)]⟩, fDig⟩]
theorem N0_ok : ∀ e ∈ N0, EntNC Tryz.prog gG e := List.forall_mem_cons.2 ⟨ent_Of, List.forall_mem_cons.2 ⟨ent_Big, List.forall_mem_cons.2 ⟨ent_Cmp, List.forall_mem_cons.2 ⟨ent_Add, List.forall_mem_cons.2 ⟨ent_Sub, List.forall_mem_cons.2 ⟨ent_Mul, List.forall_mem_cons.2 ⟨ent_Len, List.forall_mem_cons.2 ⟨ent_Shl, List.forall_mem_cons.2 ⟨ent_Shr, List.forall_mem_cons.2 ⟨ent_Bit, List.forall_mem_cons.2 ⟨ent_digit, fun e he => by cases he⟩⟩⟩⟩⟩⟩⟩⟩⟩⟩⟩
def C0 : List Ent := []
theorem C0_ok : ∀ e ∈ C0, EntC Tryz.prog gG e := fun e he => by cases he
def Z0 : List EntS := []
theorem Z0_ok : ∀ e ∈ Z0, EntSC Tryz.prog gG e := fun e he => by cases he
end Go.Proofs.YtngiodcdelfdmaaGreatDoor
