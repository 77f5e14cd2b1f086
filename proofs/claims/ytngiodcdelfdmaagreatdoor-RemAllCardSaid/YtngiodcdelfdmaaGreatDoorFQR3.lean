import Derived.Test.YtngiodcdelfdmaaGreatDoorZGR3
namespace Go.Proofs.YtngiodcdelfdmaaGreatDoor.FP
set_option linter.unusedVariables false
set_option linter.unusedSimpArgs false
theorem roundE_shift {p emax m : Nat} {after neg : Bool} {e : Int} {j L : Nat} (hp : 2 ≤ p) :
  roundE p emax m after neg (e + j) L = roundE p emax m after neg e (L * 2 ^ j) := by
 unfold roundE
 apply roundC_ratio hp (two_pow_pos _) (two_pow_pos _)
 rw [Nat.mul_assoc L, ← Nat.pow_add, Nat.mul_assoc, Nat.mul_assoc, ← Nat.pow_add, ← Nat.pow_add]
 congr 2
 omega
def cmpT (ea : Int) (sa : Nat) (eb : Int) (sb : Nat) : Int :=
 if sa / 2 ^ (max ea eb - ea).toNat < sb / 2 ^ (max ea eb - eb).toNat then -1
 else if sb / 2 ^ (max ea eb - eb).toNat < sa / 2 ^ (max ea eb - ea).toNat then 1
 else if sa % 2 ^ (max ea eb - ea).toNat ≠ 0 then 1 else if sb % 2 ^ (max ea eb - eb).toNat ≠ 0 then -1 else 0
theorem roundE_low {p emax m : Nat} {after neg : Bool} {e L : Int} {s : Nat} (hp : 2 ≤ p) (h : L ≤ e) : roundE p emax m after neg e s = roundE p emax m after neg L (s * 2 ^ (e - L).toNat) := by
 have := roundE_shift (p := p) (emax := emax) (m := m) (after := after) (neg := neg) (e := L) (j := (e - L).toNat) (L := s) hp
 rw [← this]; congr 1; omega
theorem pow_split {a b L : Int} (h1 : b ≤ a) (h2 : L ≤ b) : 2 ^ (a - b).toNat * 2 ^ (b - L).toNat = 2 ^ (a - L).toNat := by rw [← Nat.pow_add]; congr 1; omega
theorem at_num {f c : Nat} (hf : f < 4) (h0 : 0 < c) (h1 : c < inf f) : unSig f c * 2 ^ 128 * 2 ^ (unExp f c + 40000).toNat = val f c * 2 ^ (255 - fU f + 40000 : Int).toNat := by
 have hv := un_val hf h0 h1
 have hr := un_exp hf h1
 obtain ⟨n1, n2, n3, n4, n5, n6, n7, n8, n9⟩ := fmtN hf
 have hU : fU f ≤ 16500 := by unfold fU; omega
 generalize unExp f c = e at *
 generalize unSig f c = x at *
 generalize val f c = C at *
 apply Nat.eq_of_mul_eq_mul_right (two_pow_pos (127 - e - fU f : Int).toNat)
 rw [Nat.mul_right_comm C, ← hv, Nat.mul_assoc x, Nat.mul_assoc x, Nat.mul_assoc x, ← Nat.pow_add, ← Nat.pow_add, ← Nat.pow_add]
 congr 2
 omega
theorem round_units {f m : Nat} {after neg : Bool} {V : Nat} (hf : f < 4) : roundE (fP f) (fE f) m after neg (-40000) (V * 2 ^ (255 - fU f + 40000 : Int).toNat) = roundC (fP f) (fE f) m after neg V 1 := by
 obtain ⟨n1, n2, n3, n4, n5, n6, n7, n8, n9⟩ := fmtN hf
 apply roundE_ratio n1 (by decide)
 have hU : fU f = fE f + fP f - 2 := rfl
 rw [Nat.mul_one, Nat.mul_assoc, ← Nat.pow_add]
 congr 2
 omega
def sgV (s t : Bool) (A B : Nat) : Nat := if s = t then A + B else if A < B then B - A else A - B
def sgS (s t : Bool) (A B : Nat) : Bool := if s = t then s else if A < B then t else s
def sgN (m : Nat) (s t : Bool) (A B : Nat) : Bool := if sgV s t A B = 0 then (if s = t then s else decide (m = 3)) else sgS s t A B
def resS (s t : Bool) (ea : Int) (sa : Nat) (eb : Int) (sb : Nat) : Bool := if s = t then s else if cmpT ea sa eb sb < 0 then t else s
def addN (f m : Nat) (s t : Bool) (c d : Nat) : Bool := sgN m s t (val f c) (val f d)
def remT (A B : Nat) : Bool := decide (B < 2 * (A % B)) || (decide (2 * (A % B) = B) && decide (A / B % 2 = 1))
def remV (A B : Nat) : Nat := if remT A B = true then B - A % B else A % B
theorem remV_half {A B : Nat} (hB : 0 < B) : 2 * remV A B ≤ B := by
 have := Nat.mod_lt A hB
 unfold remV
 by_cases h : remT A B = true
 ·rw [if_pos h]
  unfold remT at h
  simp only [Bool.or_eq_true, Bool.and_eq_true, decide_eq_true_iff] at h
  omega
 ·rw [if_neg h]
  unfold remT at h
  simp only [Bool.or_eq_true, Bool.and_eq_true, decide_eq_true_iff] at h
  omega
theorem rem_small {A B : Nat} (h : 2 * A < B) : remT A B = false ∧ remV A B = A := by
 have e : A % B = A := Nat.mod_eq_of_lt (by omega)
 have ht : remT A B = false := by
  unfold remT
  rw [e, decide_eq_false (by omega), decide_eq_false (by omega)]; rfl
 refine ⟨ht, ?_⟩
 unfold remV
 rw [ht, if_neg (by decide), e]
theorem remV_scale {A B k : Nat} (hk : 0 < k) : remV (A * k) (B * k) = remV A B * k ∧ remT (A * k) (B * k) = remT A B := by
 have h1 : A * k % (B * k) = A % B * k := Nat.mul_mod_mul_right k A B
 have h2 : A * k / (B * k) = A / B := Nat.mul_div_mul_right A B hk
 have ht : remT (A * k) (B * k) = remT A B := by
  unfold remT
  rw [h1, h2]
  have e1 : (B * k < 2 * (A % B * k)) ↔ B < 2 * (A % B) := by rw [← Nat.mul_assoc]; exact Nat.mul_lt_mul_right hk
  have e2 : (2 * (A % B * k) = B * k) ↔ 2 * (A % B) = B := by
   rw [← Nat.mul_assoc]; exact Nat.mul_left_inj (by omega)
  rw [decide_eq_decide.2 e1, decide_eq_decide.2 e2]
 refine ⟨?_, ht⟩
 unfold remV
 rw [ht, h1]
 by_cases h : remT A B = true
 ·rw [if_pos h, if_pos h, Nat.sub_mul]
 ·rw [if_neg h, if_neg h]
theorem rem_fits {f c d : Nat} (hf : f < 4) (c1 : c < inf f) (d0 : 0 < d) (d1 : d < inf f) : ∃ e, e < inf f ∧ val f e = remV (val f c) (val f d) := by
 have hp := fP_ge hf
 obtain ⟨qc, lc, _⟩ := cq_bounds hp c
 obtain ⟨qd, ld, _⟩ := cq_bounds hp d
 have dpos : 0 < val f d := cval_pos hp d0
 have hh := remV_half (A := val f c) dpos
 have hfin := val_fin hf d1
 by_cases h : csh (fP f) d ≤ csh (fP f) c
 ·obtain ⟨j, hj⟩ : ∃ j, csh (fP f) c = csh (fP f) d + j := ⟨csh (fP f) c - csh (fP f) d, by omega⟩
  have eA : val f c = cq (fP f) c * 2 ^ j * 2 ^ csh (fP f) d := by unfold val cval; rw [hj, Nat.pow_add, Nat.mul_assoc, Nat.mul_comm (2 ^ j)]
  have eB : val f d = cq (fP f) d * 2 ^ csh (fP f) d := rfl
  have hs := (remV_scale (A := cq (fP f) c * 2 ^ j) (B := cq (fP f) d) (two_pow_pos (csh (fP f) d))).1
  rw [← eA, ← eB] at hs
  have hq : remV (cq (fP f) c * 2 ^ j) (cq (fP f) d) < 2 ^ fP f := by
   have := remV_half (A := cq (fP f) c * 2 ^ j) (B := cq (fP f) d) (by
    apply Nat.pos_of_ne_zero; intro h0
    rw [eB, h0, Nat.zero_mul] at dpos; omega)
   omega
  obtain ⟨e, he, hv⟩ := code_of hf (k := csh (fP f) d) hq (by rw [← hs]; omega)
  exact ⟨e, he, by rw [hv, hs]⟩
 ·obtain ⟨j, hj⟩ : ∃ j, csh (fP f) d = csh (fP f) c + (j + 1) := ⟨csh (fP f) d - csh (fP f) c - 1, by omega⟩
  have eB : val f d = cq (fP f) d * 2 ^ (j + 1) * 2 ^ csh (fP f) c := by unfold val cval; rw [hj, Nat.pow_add, Nat.mul_assoc, Nat.mul_comm (2 ^ (j + 1))]
  have eA : val f c = cq (fP f) c * 2 ^ csh (fP f) c := rfl
  have hs := (remV_scale (A := cq (fP f) c) (B := cq (fP f) d * 2 ^ (j + 1)) (two_pow_pos (csh (fP f) c))).1
  rw [← eA, ← eB] at hs
  have hge := ld (by omega)
  have hlt : cq (fP f) c < cq (fP f) d * 2 ^ (j + 1) := by
   have h1 := half_pow hp
   have h2 : 2 ^ (fP f - 1) * 2 ≤ cq (fP f) d * 2 ^ (j + 1) := Nat.mul_le_mul hge (by rw [Nat.pow_succ]; have := two_pow_pos j; omega)
   omega
  have hq : remV (cq (fP f) c) (cq (fP f) d * 2 ^ (j + 1)) < 2 ^ fP f := by
   have e1 : cq (fP f) c % (cq (fP f) d * 2 ^ (j + 1)) = cq (fP f) c := Nat.mod_eq_of_lt hlt
   have e2 : cq (fP f) c / (cq (fP f) d * 2 ^ (j + 1)) = 0 := Nat.div_eq_of_lt hlt
   unfold remV remT
   rw [e1, e2]
   generalize cq (fP f) d * 2 ^ (j + 1) = Y at *
   split
   ·rename_i ht
    simp only [Bool.or_eq_true, Bool.and_eq_true, decide_eq_true_iff] at ht
    omega
   ·omega
  obtain ⟨e, he, hv⟩ := code_of hf (k := csh (fP f) c) hq (by rw [← hs]; omega)
  exact ⟨e, he, by rw [hv, hs]⟩
def remC (f c d : Nat) : Nat := (roundC (fP f) (fE f) 4 false false (remV (val f c) (val f d)) 1).1
theorem remC_val {f c d : Nat} (hf : f < 4) (c1 : c < inf f) (d0 : 0 < d) (d1 : d < inf f) : remC f c d < inf f ∧ val f (remC f c d) = remV (val f c) (val f d) ∧ ∀ after neg, roundC (fP f) (fE f) 4 after neg (remV (val f c) (val f d)) 1 = (remC f c d, 0) := by
 obtain ⟨e, he, hv⟩ := rem_fits hf c1 d0 d1
 have h : ∀ after neg, roundC (fP f) (fE f) 4 after neg (remV (val f c) (val f d)) 1 = (e, 0) := fun after neg => roundC_exact (fP_ge hf) (by decide) he (by rw [Nat.mul_one]; exact hv.symm)
 have e2 : remC f c d = e := by unfold remC; rw [h]
 rw [e2]
 exact ⟨he, hv, h⟩
theorem rest_pow {x y r n : Nat} {odd : Bool} (hy : 0 < y) (h : (r, odd) = if y ≤ x then (x - y, true) else (x, false)) (hx : x < 2 * y) :
  r < y ∧ (x % y = r ∧ decide (x / y % 2 = 1) = odd) ∧ r * 2 ^ (n + 1) % y = x * 2 ^ (n + 1) % y ∧ (r * 2 ^ (n + 1) / y) % 2 = (x * 2 ^ (n + 1) / y) % 2 := by
 by_cases hle : y ≤ x
 ·rw [if_pos hle] at h
  obtain ⟨rfl, rfl⟩ : r = x - y ∧ odd = true := ⟨congrArg Prod.fst h, congrArg Prod.snd h⟩
  have e : x = (x - y) + y := by omega
  have m1 : x % y = x - y := by
   conv => lhs; rw [e]
   rw [Nat.add_mod_right, Nat.mod_eq_of_lt (by omega)]
  have d1 : x / y = 1 := Nat.div_eq_of_lt_le (by omega) (by omega)
  have e2 : x * 2 ^ (n + 1) = (x - y) * 2 ^ (n + 1) + y * (2 * 2 ^ n) := by
   conv => lhs; rw [e]
   rw [Nat.add_mul, Nat.pow_succ, Nat.mul_comm (2 ^ n) 2]
  refine ⟨by omega, ⟨m1, by rw [d1]; rfl⟩, ?_, ?_⟩
  ·rw [e2, Nat.add_mul_mod_self_left]
  ·rw [e2, Nat.add_mul_div_left _ _ hy]; omega
 ·rw [if_neg hle] at h
  obtain ⟨rfl, rfl⟩ : r = x ∧ odd = false := ⟨congrArg Prod.fst h, congrArg Prod.snd h⟩
  exact ⟨by omega, ⟨Nat.mod_eq_of_lt (by omega), by rw [Nat.div_eq_of_lt (by omega)]; rfl⟩, rfl, rfl⟩
theorem rem_at {f c d : Nat} (hf : f < 4) (c0 : 0 < c) (c1 : c < inf f) (d0 : 0 < d) (d1 : d < inf f) {k l : Nat} (hk : (unExp f c : Int) + 40000 = k) (hl : (unExp f d : Int) + 40000 = l) :
  remV (unSig f c * 2 ^ k) (unSig f d * 2 ^ l) * 2 ^ 128 = remV (val f c) (val f d) * 2 ^ (255 - fU f + 40000 : Int).toNat ∧ remT (unSig f c * 2 ^ k) (unSig f d * 2 ^ l) = remT (val f c) (val f d) := by
 have ha := at_num hf c0 c1
 have hb := at_num hf d0 d1
 rw [show (unExp f c + 40000).toNat = k by omega, Nat.mul_right_comm] at ha
 rw [show (unExp f d + 40000).toNat = l by omega, Nat.mul_right_comm] at hb
 obtain ⟨s1, s2⟩ := remV_scale (A := unSig f c * 2 ^ k) (B := unSig f d * 2 ^ l) (two_pow_pos 128)
 obtain ⟨t1, t2⟩ := remV_scale (A := val f c) (B := val f d) (two_pow_pos (255 - fU f + 40000 : Int).toNat)
 rw [ha, hb] at s1 s2
 exact ⟨s1.symm.trans t1, s2.symm.trans t2⟩
theorem rem_round {f c d S m : Nat} {neg after : Bool} {e : Int} (hf : f < 4) (c0 : 0 < c) (c1 : c < inf f) (d0 : 0 < d) (d1 : d < inf f) (he : -40000 ≤ e)
  (hS : S * 2 ^ (e + 40000).toNat = remV (unSig f c * 2 ^ (unExp f c + 40000).toNat) (unSig f d * 2 ^ (unExp f d + 40000).toNat)) :
  roundE (fP f) (fE f) 4 after neg (e + 128) S = (remC f c d, 0) := by
 have h1 := un_exp hf c1
 have h2 := un_exp hf d1
 obtain ⟨s1, s2⟩ := rem_at hf c0 c1 d0 d1 (k := (unExp f c + 40000).toNat) (l := (unExp f d + 40000).toNat) (by omega) (by omega)
 have hr : roundE (fP f) (fE f) 4 after neg (e + 128) S = roundE (fP f) (fE f) 4 after neg (-40000) (remV (val f c) (val f d) * 2 ^ (255 - fU f + 40000 : Int).toNat) := by
  rw [roundE_low (e := e + 128) (L := -40000) (fP_ge hf) (by omega), ← s1, ← hS, Nat.mul_assoc S, ← Nat.pow_add]
  congr 3
  omega
 rw [hr, round_units hf]
 exact (remC_val hf c1 d0 d1).2.2 _ _
end Go.Proofs.YtngiodcdelfdmaaGreatDoor.FP
