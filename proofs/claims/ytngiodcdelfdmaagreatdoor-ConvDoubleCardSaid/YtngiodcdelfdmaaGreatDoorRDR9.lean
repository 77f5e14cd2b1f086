import Derived.Test.YtngiodcdelfdmaaGreatDoorZQR9
namespace Go.Proofs.YtngiodcdelfdmaaGreatDoor
namespace FP
set_option linter.unusedVariables false
set_option linter.unusedSimpArgs false
theorem near_rest {p N D c : Nat} (hp : 2 ≤ p) (hc : flc p N D = c) : (cval p c + cval p (c + 1)) * D = (2 * (N / (D * 2 ^ fsh p N D)) + 1) * (D * 2 ^ fsh p N D) := by
 obtain ⟨h1, h2⟩ := flc_val (p := p) (N := N) (D := D) hp
 rw [← hc, h1, h2, ← Nat.add_mul, show N / (D * 2 ^ fsh p N D) + (N / (D * 2 ^ fsh p N D) + 1) = 2 * (N / (D * 2 ^ fsh p N D)) + 1 by omega, Nat.mul_assoc, Nat.mul_comm (2 ^ _) D]
theorem near_lo {p N D c : Nat} {neg : Bool} (hp : 2 ≤ p) (hD : 0 < D) (hc : flc p N D = c) (h : 2 * N < (cval p c + cval p (c + 1)) * D) : fcode p 0 neg N D = c := by
 rw [near_rest hp hc] at h
 rw [fcode_flc, hc]
 have hE : 0 < D * 2 ^ fsh p N D := Nat.mul_pos hD (two_pow_pos _)
 generalize D * 2 ^ fsh p N D = E at *
 have e := Nat.div_add_mod N E
 have e2 : (2 * (N / E) + 1) * E = 2 * (E * (N / E)) + E := by rw [Nat.add_mul, Nat.one_mul, Nat.mul_comm E, Nat.mul_assoc]
 have hl : 2 * (N % E) < E := by omega
 unfold upN restN
 by_cases h0 : N % E = 0
 ·rw [if_pos h0]; rfl
 ·rw [if_neg h0, if_pos hl]; rfl
theorem near_hi {p N D c : Nat} {neg : Bool} (hp : 2 ≤ p) (hD : 0 < D) (hc : flc p N D = c) (h : (cval p c + cval p (c + 1)) * D < 2 * N) : fcode p 0 neg N D = c + 1 := by
 rw [near_rest hp hc] at h
 rw [fcode_flc, hc]
 have hE : 0 < D * 2 ^ fsh p N D := Nat.mul_pos hD (two_pow_pos _)
 generalize D * 2 ^ fsh p N D = E at *
 have e := Nat.div_add_mod N E
 have e2 : (2 * (N / E) + 1) * E = 2 * (E * (N / E)) + E := by rw [Nat.add_mul, Nat.one_mul, Nat.mul_comm E, Nat.mul_assoc]
 have hl : E < 2 * (N % E) := by omega
 unfold upN restN
 rw [if_neg (by omega), if_neg (by omega), if_neg (by omega)]; rfl
theorem rep {P q k : Nat} (hP : 2 ≤ P) (hq : q < 2 ^ P) : ∃ e, cval P e = q * 2 ^ k := by
 have h := (exactF_iff (p := P) hP (by decide)).1 (exactF_bits (k := k) (D := 1) hP (by decide) hq)
 exact ⟨_, by rw [Nat.mul_one, Nat.mul_one] at h; exact h.symm⟩
theorem code_le {P N D e : Nat} {neg : Bool} (hP : 2 ≤ P) (hD : 0 < D) (h : cval P e * D ≤ N) : cval P e ≤ cval P (fcode P 0 neg N D) := by
 rw [cval_le hP]
 have h2 := fcode_mono (m := 0) (neg := neg) hP (show 0 < 1 by decide) hD (show cval P e * D ≤ N * 1 by omega)
 rw [fcode_exact hP (by decide) (show cval P e = cval P e * 1 by omega)] at h2
 exact h2
theorem code_ge {P N D e : Nat} {neg : Bool} (hP : 2 ≤ P) (hD : 0 < D) (h : N ≤ cval P e * D) : cval P (fcode P 0 neg N D) ≤ cval P e := by
 rw [cval_le hP]
 have h2 := fcode_mono (m := 0) (neg := neg) hP hD (show 0 < 1 by decide) (show N * 1 ≤ cval P e * D by omega)
 rw [fcode_exact hP (by decide) (show cval P e = cval P e * 1 by omega)] at h2
 exact h2
theorem double {p P N D K : Nat} {neg : Bool} (hp : 2 ≤ p) (hP : p + 1 ≤ P) (hK : 1 ≤ K) (hD : 0 < D)
  (H : ∀ c, flc p N D = c → 2 * cval P (fcode P 0 neg (N * 2 ^ K) D) = (cval p c + cval p (c + 1)) * 2 ^ K → 2 * N = (cval p c + cval p (c + 1)) * D) :
  fcode p 0 neg (cval P (fcode P 0 neg (N * 2 ^ K) D)) (2 ^ K) = fcode p 0 neg N D := by
 have hP2 : 2 ≤ P := by omega
 obtain ⟨c, hc⟩ : ∃ c, flc p N D = c := ⟨_, rfl⟩
 obtain ⟨b1, b2⟩ := flc_between (p := p) (N := N) hp hD
 rw [hc] at b1 b2
 have H := H c hc
 obtain ⟨q1, q2, q3⟩ := cq_bounds hp c
 have hs := cval_succ hp c
 have hv : cval p c = cq p c * 2 ^ csh p c := rfl
 have hpP : 2 ^ (p + 1) ≤ 2 ^ P := Nat.pow_le_pow_right (by decide) hP
 rw [Nat.pow_succ] at hpP
 obtain ⟨ea, ha⟩ := rep (P := P) (q := cq p c) (k := csh p c + K) hP2 (by omega)
 obtain ⟨eb, hb⟩ := rep (P := P) (q := cq p c + 1) (k := csh p c + K) hP2 (by omega)
 obtain ⟨em, hm⟩ := rep (P := P) (q := 2 * cq p c + 1) (k := csh p c + K - 1) hP2 (by omega)
 have ha2 : cval P ea = cval p c * 2 ^ K := by rw [ha, hv, Nat.pow_add]; ac_rfl
 have hb2 : cval P eb = cval p (c + 1) * 2 ^ K := by rw [hb, hs, hv, ← Nat.succ_mul, Nat.pow_add, Nat.mul_assoc]
 have hm2 : 2 * cval P em = (cval p c + cval p (c + 1)) * 2 ^ K := by
  rw [hm, hs, hv, show cq p c * 2 ^ csh p c + (cq p c * 2 ^ csh p c + 2 ^ csh p c) = (2 * cq p c + 1) * 2 ^ csh p c by rw [Nat.add_mul, Nat.one_mul, Nat.mul_assoc]; omega, Nat.mul_assoc (2 * cq p c + 1), ← Nat.pow_add, show csh p c + K = csh p c + K - 1 + 1 by omega, Nat.pow_succ, Nat.add_sub_cancel]
  generalize 2 ^ (csh p c + K - 1) = z; generalize 2 * cq p c + 1 = y; ac_rfl
 have pk := two_pow_pos K
 have la := code_le (P := P) (N := N * 2 ^ K) (D := D) (e := ea) (neg := neg) hP2 hD (by rw [ha2, Nat.mul_right_comm]; exact Nat.mul_le_mul_right _ b1)
 have lb := code_ge (P := P) (N := N * 2 ^ K) (D := D) (e := eb) (neg := neg) hP2 hD (by rw [hb2, Nat.mul_right_comm]; exact Nat.mul_le_mul_right _ (Nat.le_of_lt b2))
 have mid : cval P em * D * 2 = (cval p c + cval p (c + 1)) * D * 2 ^ K := by rw [Nat.mul_right_comm (cval p c + _), ← hm2]; ac_rfl
 generalize hM : cval p c + cval p (c + 1) = M at *
 rcases Nat.lt_trichotomy (2 * N) (M * D) with h | h | h
 ·have h2 : 2 * N * 2 ^ K < M * D * 2 ^ K := Nat.mul_lt_mul_of_pos_right h pk
  have lm := code_ge (P := P) (N := N * 2 ^ K) (D := D) (e := em) (neg := neg) hP2 hD (by rw [Nat.mul_assoc] at h2; omega)
  generalize hd : fcode P 0 neg (N * 2 ^ K) D = d at *
  have hne : 2 * cval P d ≠ M * 2 ^ K := fun h3 => by have := H h3; omega
  have hlt : 2 * cval P d < M * 2 ^ K := by omega
  have hM2 : M * 2 ^ K < 2 * (cval p (c + 1) * 2 ^ K) := by
   rw [← hM, Nat.add_mul]
   have := Nat.mul_lt_mul_of_pos_right (cval_lt_succ hp c) pk; omega
  have hf : flc p (cval P d) (2 ^ K) = c := flc_unique hp pk (by rw [← ha2]; exact la) (by omega)
  rw [near_lo hp pk hf (by rw [hM]; exact hlt), near_lo hp hD hc (by rw [hM]; exact h)]
 ·have h2 : N * 2 ^ K = cval P em * D := by
   have h3 : 2 * N * 2 ^ K = M * D * 2 ^ K := by rw [h]
   rw [Nat.mul_assoc] at h3; omega
  rw [fcode_exact hP2 hD h2]
  refine fcode_ratio hp pk hD ?_
  have h3 := h2.symm
  exact h3
 ·have h2 : M * D * 2 ^ K < 2 * N * 2 ^ K := Nat.mul_lt_mul_of_pos_right h pk
  have lm := code_le (P := P) (N := N * 2 ^ K) (D := D) (e := em) (neg := neg) hP2 hD (by rw [Nat.mul_assoc 2] at h2; omega)
  generalize hd : fcode P 0 neg (N * 2 ^ K) D = d at *
  have hne : 2 * cval P d ≠ M * 2 ^ K := fun h3 => by have := H h3; omega
  have hlt : M * 2 ^ K < 2 * cval P d := by omega
  rw [near_hi hp hD hc (by rw [hM]; exact h)]
  rcases Nat.lt_or_ge (cval P d) (cval P eb) with h4 | h4
  ·have hf : flc p (cval P d) (2 ^ K) = c := flc_unique hp pk (by rw [← ha2]; exact la) (by rw [← hb2]; exact h4)
   exact near_hi hp pk hf (by rw [hM]; exact hlt)
  ·exact fcode_exact hp pk (by rw [← hb2]; omega)
theorem near_val {P N D : Nat} {neg : Bool} (hP : 2 ≤ P) (hD : 0 < D) : 2 * N ≤ 2 * cval P (fcode P 0 neg N D) * D + D * 2 ^ fsh P N D ∧ 2 * cval P (fcode P 0 neg N D) * D ≤ 2 * N + D * 2 ^ fsh P N D := by
 obtain ⟨f1, f2⟩ := fq_bounds (p := P) (N := N) (D := D) hP
 have hE : 0 < D * 2 ^ fsh P N D := Nat.mul_pos hD (two_pow_pos _)
 obtain ⟨u1, u2⟩ := up_le 0 neg N (D * 2 ^ fsh P N D)
 obtain ⟨n1, n2⟩ := rdiv_near (m := 0) (.inl rfl) neg (N := N) hE
 have hv : cval P (fcode P 0 neg N D) = rdiv 0 neg N (D * 2 ^ fsh P N D) * 2 ^ fsh P N D := by
  unfold fcode
  exact cval_of hP (by omega) (fun h => by have := f2 h; omega)
 rw [hv]
 generalize rdiv 0 neg N (D * 2 ^ fsh P N D) = r at *
 generalize 2 ^ fsh P N D = z at *
 have e1 : 2 * (r * z) * D = 2 * r * (D * z) := by rw [Nat.mul_assoc, Nat.mul_assoc, Nat.mul_assoc, Nat.mul_comm z D]
 have e2 : (2 * r + 1) * (D * z) = 2 * r * (D * z) + D * z := by rw [Nat.add_mul, Nat.one_mul]
 rw [e1]
 omega
theorem mul_low {z T w : Nat} (h : z * T < (w + 1) * T) : z ≤ w := Nat.le_of_lt_succ (Nat.lt_of_mul_lt_mul_right h)
theorem sum_core1 {p k s q x i y j V : Nat} (hp : 1 ≤ p) (hs : k + p + 2 ≤ s) (hq : 2 ^ (p - 1) ≤ q) (hV : q * 2 ^ s ≤ V) (hx : x < 2 ^ p) (hy : y < 2 ^ p) (hi : i ≤ k)
  (h1 : 2 * V ≤ (2 * q + 1) * 2 ^ s + 2 ^ k) (h2 : (2 * q + 1) * 2 ^ s ≤ 2 * V + 2 ^ k) (h : V = x * 2 ^ i + y * 2 ^ j ∨ V + x * 2 ^ i = y * 2 ^ j ∨ V + y * 2 ^ j = x * 2 ^ i) : False := by
 have hX : x * 2 ^ i < 2 ^ (p + k) := by
  rw [Nat.pow_add]
  exact Nat.lt_of_lt_of_le (Nat.mul_lt_mul_of_pos_right hx (two_pow_pos i)) (Nat.mul_le_mul_left _ (Nat.pow_le_pow_right (by decide) hi))
 have hT : 4 * 2 ^ (p + k) ≤ 2 ^ s := by
  rw [show (4 : Nat) = 2 ^ 2 from rfl, ← Nat.pow_add]; exact Nat.pow_le_pow_right (by decide) (by omega)
 have hk : 4 * 2 ^ k ≤ 2 ^ s := by
  rw [show (4 : Nat) = 2 ^ 2 from rfl, ← Nat.pow_add]; exact Nat.pow_le_pow_right (by decide) (by omega)
 have hh : 2 ^ p = 2 * 2 ^ (p - 1) := by rw [← Nat.pow_succ']; congr 1; omega
 have hq1 : 1 ≤ q := Nat.le_trans (two_pow_pos _) hq
 generalize hXX : x * 2 ^ i = X at *
 have hTV : 2 ^ s ≤ V := Nat.le_trans (Nat.le_mul_of_pos_left _ hq1) hV
 have hj : s ≤ j + 1 := by
  apply Nat.le_of_not_lt
  intro hlt
  have h3 : y * 2 ^ j * 4 < 2 ^ p * 2 ^ s := by
   have h4 : 2 ^ j * 4 ≤ 2 ^ s := by rw [show (4 : Nat) = 2 ^ 2 from rfl, ← Nat.pow_add]; exact Nat.pow_le_pow_right (by decide) (by omega)
   rw [Nat.mul_assoc]
   exact Nat.lt_of_le_of_lt (Nat.mul_le_mul_left _ h4) (Nat.mul_lt_mul_of_pos_right hy (two_pow_pos s))
  have h5 : 2 ^ p * 2 ^ s ≤ 2 * q * 2 ^ s := Nat.mul_le_mul_right _ (by omega)
  rw [Nat.mul_assoc 2 q] at h5
  omega
 obtain ⟨u, hu⟩ : ∃ u, j + 1 = s + u := ⟨j + 1 - s, by omega⟩
 have h2Y : 2 * (y * 2 ^ j) = y * 2 ^ u * 2 ^ s := by
  rw [Nat.mul_assoc y, ← Nat.pow_add, Nat.mul_left_comm, ← Nat.pow_succ']; congr 2; omega
 generalize hYY : y * 2 ^ j = Y at *
 have hz : y * 2 ^ u = 2 * q + 1 := by
  apply Nat.le_antisymm
  ·apply mul_low (T := 2 ^ s)
   rw [← h2Y, Nat.add_mul (2 * q + 1) 1 (2 ^ s), Nat.one_mul]
   omega
  ·apply mul_low (T := 2 ^ s)
   rw [Nat.add_mul (y * 2 ^ u) 1 (2 ^ s), Nat.one_mul, ← h2Y]
   omega
 rcases Nat.eq_zero_or_pos u with rfl | h0
 ·rw [Nat.pow_zero, Nat.mul_one] at hz; omega
 ·obtain ⟨v, rfl⟩ : ∃ v, u = v + 1 := ⟨u - 1, by omega⟩
  rw [Nat.pow_succ, ← Nat.mul_assoc] at hz; omega
theorem sum_core {p k s q x i y j V : Nat} (hp : 1 ≤ p) (hs : k + p + 2 ≤ s) (hq : 2 ^ (p - 1) ≤ q) (hV : q * 2 ^ s ≤ V) (hx : x < 2 ^ p) (hy : y < 2 ^ p)
  (h1 : 2 * V ≤ (2 * q + 1) * 2 ^ s + 2 ^ k) (h2 : (2 * q + 1) * 2 ^ s ≤ 2 * V + 2 ^ k) (h : V = x * 2 ^ i + y * 2 ^ j ∨ V + x * 2 ^ i = y * 2 ^ j ∨ V + y * 2 ^ j = x * 2 ^ i) : 2 * V = (2 * q + 1) * 2 ^ s := by
 rcases Nat.lt_or_ge k i with hi | hi
 ·rcases Nat.lt_or_ge k j with hj | hj
  ·obtain ⟨a, rfl⟩ : ∃ a, i = k + 1 + a := ⟨i - (k + 1), by omega⟩
   obtain ⟨b, rfl⟩ : ∃ b, j = k + 1 + b := ⟨j - (k + 1), by omega⟩
   obtain ⟨c, rfl⟩ : ∃ c, s = k + 2 + c := ⟨s - (k + 2), by omega⟩
   have e1 : x * 2 ^ (k + 1 + a) = 2 ^ k * 2 * (x * 2 ^ a) := by rw [Nat.pow_add, Nat.pow_succ]; ac_rfl
   have e2 : y * 2 ^ (k + 1 + b) = 2 ^ k * 2 * (y * 2 ^ b) := by rw [Nat.pow_add, Nat.pow_succ]; ac_rfl
   have e3 : (2 * q + 1) * 2 ^ (k + 2 + c) = 2 ^ k * 4 * ((2 * q + 1) * 2 ^ c) := by rw [Nat.pow_add, Nat.pow_add, show (2 : Nat) ^ 2 = 4 from rfl]; ac_rfl
   rw [e1, e2] at h
   rw [e3] at h1 h2 ⊢
   generalize (2 * q + 1) * 2 ^ c = m at *
   generalize x * 2 ^ a = X at *
   generalize y * 2 ^ b = Y at *
   have hz := two_pow_pos k
   generalize 2 ^ k = z at *
   have hv : ∃ v, V = z * 2 * v := by
    rcases h with h | h | h
    ·exact ⟨X + Y, by rw [h, Nat.mul_add]⟩
    ·exact ⟨Y - X, by rw [Nat.mul_sub]; omega⟩
    ·exact ⟨X - Y, by rw [Nat.mul_sub]; omega⟩
   obtain ⟨v, rfl⟩ := hv
   have e4 : 2 * (z * 2 * v) = z * 4 * v := by rw [← Nat.mul_assoc]; congr 1; omega
   rw [e4] at h1 h2 ⊢
   have hvm : v = m := by
    apply Nat.le_antisymm
    ·apply mul_low (T := z * 4)
     rw [Nat.mul_comm v, Nat.mul_comm (m + 1), Nat.mul_add, Nat.mul_one]; omega
    ·apply mul_low (T := z * 4)
     rw [Nat.mul_comm m, Nat.mul_comm (v + 1), Nat.mul_add, Nat.mul_one]; omega
   rw [hvm]
  ·exact (sum_core1 (i := j) (j := i) hp hs hq hV hy hx hj h1 h2 (h.elim (fun h => .inl (by rw [h, Nat.add_comm])) (fun h => h.elim (fun h => .inr (.inr h)) (fun h => .inr (.inl h))))).elim
 ·exact (sum_core1 hp hs hq hV hx hy hi h1 h2 h).elim
theorem sgV_parts (s t : Bool) (A B : Nat) : sgV s t A B = A + B ∨ sgV s t A B + A = B ∨ sgV s t A B + B = A := by
 unfold sgV; split
 ·exact .inl rfl
 ·split
  ·right; left; omega
  ·right; right; omega
theorem sum_double {p P K : Nat} {neg s t : Bool} {c d : Nat} (hp : 2 ≤ p) (hP : 2 * p + 2 ≤ P) (hK : 1 ≤ K) :
  fcode p 0 neg (cval P (fcode P 0 neg (sgV s t (cval p c) (cval p d) * 2 ^ K) 1)) (2 ^ K) = fcode p 0 neg (sgV s t (cval p c) (cval p d)) 1 := by
 have hparts := sgV_parts s t (cval p c) (cval p d)
 generalize sgV s t (cval p c) (cval p d) = V at *
 have hP2 : 2 ≤ P := by omega
 refine double hp (by omega) hK (by decide) fun e he H => ?_
 obtain ⟨n1, n2⟩ := near_val (P := P) (N := V * 2 ^ K) (D := 1) (neg := neg) hP2 (by decide)
 have hr := near_rest hp he
 obtain ⟨g1, g2⟩ := (fsh_iff (p := P) (N := V * 2 ^ K) (D := 1) (s := fsh P (V * 2 ^ K) 1) hP2 (by decide)).1 rfl
 obtain ⟨l1, l2⟩ := (fsh_iff (p := p) (N := V) (D := 1) (s := fsh p V 1) hp (by decide)).1 rfl
 obtain ⟨f1, f2⟩ := fq_bounds (p := p) (N := V) (D := 1) hp
 simp only [Nat.one_mul, Nat.mul_one] at *
 have hq : V / 2 ^ fsh p V 1 * 2 ^ fsh p V 1 ≤ V := Nat.div_mul_le_self _ _
 rw [hr] at H ⊢
 generalize hs : fsh p V 1 = σ at *
 generalize hS : fsh P (V * 2 ^ K) 1 = S at *
 generalize V / 2 ^ σ = q at *
 have hz := two_pow_pos K
 by_cases h0 : S = 0
 ·subst h0
  rw [Nat.add_zero] at g1
  obtain ⟨e, he⟩ := rep (P := P) (q := V * 2 ^ K) (k := 0) hP2 g1
  rw [Nat.pow_zero, Nat.mul_one] at he
  rw [fcode_exact hP2 (by decide) (show V * 2 ^ K = cval P e * 1 by omega), he, ← Nat.mul_assoc] at H
  exact Nat.eq_of_mul_eq_mul_right hz H
 ·have g2 := g2 h0
  rw [H] at n1 n2
  rcases Nat.lt_or_ge S K with hlt | hge
  ·have hlt2 : 2 ^ S < 2 ^ K := Nat.pow_lt_pow_right (by decide) hlt
   rw [← Nat.mul_assoc] at n1 n2
   generalize (2 * q + 1) * 2 ^ σ = M at *
   apply Nat.le_antisymm
   ·apply mul_low (T := 2 ^ K); rw [Nat.add_mul M 1, Nat.one_mul]; omega
   ·apply mul_low (T := 2 ^ K); rw [Nat.add_mul (2 * V) 1, Nat.one_mul]; omega
  ·obtain ⟨k, rfl⟩ : ∃ k, S = k + K := ⟨S - K, by omega⟩
   rw [Nat.pow_add 2 k K, ← Nat.mul_assoc, ← Nat.add_mul] at n1 n2
   have n1 := Nat.le_of_mul_le_mul_right n1 hz
   have n2 := Nat.le_of_mul_le_mul_right n2 hz
   have hbig : 2 ^ (P - 1 + k) ≤ V := by
    rw [← Nat.add_assoc, Nat.pow_add] at g2
    exact Nat.le_of_mul_le_mul_right g2 hz
   have hexp : P - 1 + k < p + σ := (Nat.pow_lt_pow_iff_right (by decide : 1 < 2)).1 (Nat.lt_of_le_of_lt hbig l1)
   obtain ⟨c1, _, _⟩ := cq_bounds hp c
   obtain ⟨d1, _, _⟩ := cq_bounds hp d
   exact sum_core (p := p) (by omega) (by omega) (f2 (by omega)) hq c1 d1 n1 n2 hparts
theorem sq_sum (m d : Nat) : (m + d) * (m + d) = m * m + d * (m + m + d) := by simp only [Nat.add_mul, Nat.mul_add, Nat.mul_comm d m]; omega
theorem sqrt_core {i s0 q x p P σ : Nat} (hp : 2 ≤ p) (hP : 2 * p + 2 ≤ P) (hP2 : P ≤ 113) (hq : q < 2 ^ p) (hi : i < 2 ^ 128) (h1 : i * i ≤ s0) (h2 : s0 < (i + 1) * (i + 1)) (hσ : σ = if i * i = s0 then 0 else 1)
  (hx : s0 = x * 2 ^ (255 - p)) (a1 : 2 * (i * 2 ^ 100 + σ) ≤ (2 * q + 1) * 2 ^ (228 - p) + 2 ^ (228 - P)) (a2 : (2 * q + 1) * 2 ^ (228 - p) ≤ 2 * (i * 2 ^ 100 + σ) + 2 ^ (228 - P)) : False := by
 have pm : (2 * q + 1) * 2 ^ (228 - p) = 2 * ((2 * q + 1) * 2 ^ (127 - p) * 2 ^ 100) := by
  rw [Nat.mul_assoc (2 * q + 1), ← Nat.pow_add, Nat.mul_left_comm 2, ← Nat.pow_succ']; congr 2; omega
 have pP : 2 ^ (228 - P) = 2 * (2 ^ (127 - P) * 2 ^ 100) := by rw [← Nat.pow_add, ← Nat.pow_succ']; congr 1; omega
 rw [pm, pP] at a1 a2
 have hμ : (2 * q + 1) * 2 ^ (127 - p) ≤ 2 ^ 128 := by
  have : 2 * q + 1 ≤ 2 ^ (p + 1) := by rw [Nat.pow_succ]; omega
  refine Nat.le_trans (Nat.mul_le_mul_right _ this) ?_
  rw [← Nat.pow_add]; exact Nat.pow_le_pow_right (by decide) (by omega)
 have sq : (2 * q + 1) * 2 ^ (127 - p) * ((2 * q + 1) * 2 ^ (127 - p)) = (2 * q + 1) * (2 * q + 1) * 2 ^ (254 - 2 * p) := by
  rw [show (2 * q + 1) * 2 ^ (127 - p) * ((2 * q + 1) * 2 ^ (127 - p)) = (2 * q + 1) * (2 * q + 1) * (2 ^ (127 - p) * 2 ^ (127 - p)) by ac_rfl, ← Nat.pow_add]; congr 2; omega
 have sx : s0 = 2 * (x * 2 ^ p) * 2 ^ (254 - 2 * p) := by
  rw [hx, Nat.mul_assoc 2, Nat.mul_assoc x, ← Nat.pow_add, Nat.mul_left_comm, ← Nat.pow_succ']; congr 2; omega
 have sm : 2 ^ (127 - P) * 2 ^ 129 ≤ 2 ^ (254 - 2 * p) := by rw [← Nat.pow_add]; exact Nat.pow_le_pow_right (by decide) (by omega)
 have odd : (2 * q + 1) * (2 * q + 1) = 2 * (2 * q * q + 2 * q) + 1 := by
  rw [Nat.add_mul, Nat.one_mul, Nat.mul_add, Nat.mul_add, Nat.mul_one, Nat.mul_assoc 2 q q, Nat.mul_assoc 2 q (2 * q), Nat.mul_left_comm q 2 q]; omega
 rw [odd] at sq
 generalize 2 * q * q + 2 * q = o at *
 generalize x * 2 ^ p = y at *
 have hZ := two_pow_pos (254 - 2 * p)
 generalize 2 ^ (254 - 2 * p) = Z at *
 generalize (2 * q + 1) * 2 ^ (127 - p) = μ at *
 have hG := two_pow_pos (127 - P)
 generalize 2 ^ (127 - P) = g at *
 have hσ1 : σ ≤ 1 := by rw [hσ]; split <;> omega
 have s3 : s0 + Z ≤ μ * μ ∨ μ * μ + Z ≤ s0 := by
  rw [sq, sx]
  rcases Nat.lt_or_ge o y with h | h
  ·right
   rw [show (2 * o + 1) * Z + Z = (2 * o + 2) * Z by rw [← Nat.succ_mul]]
   exact Nat.mul_le_mul_right _ (by omega)
  ·left
   rw [← Nat.succ_mul]
   exact Nat.mul_le_mul_right _ (by omega)
 rcases s3 with s3 | s3
 ·have hlt : i < μ := sq_le (by omega)
  have hd : μ ≤ i + g := by omega
  obtain ⟨d, rfl⟩ : ∃ d, μ = i + d := ⟨μ - i, by omega⟩
  have e : (i + d) * (i + d) = i * i + d * (i + i + d) := sq_sum i d
  have l1 : d * (i + i + d) ≤ g * (i + i + d) := Nat.mul_le_mul_right _ (by omega)
  have l2 : g * (i + i + d) < g * 2 ^ 129 := Nat.mul_lt_mul_of_pos_left (by omega) hG
  omega
 ·by_cases h0 : i * i = s0
  ·rw [if_pos h0] at hσ
   have hle : μ < i := sq_le (by omega)
   have hd : i ≤ μ + g := by omega
   obtain ⟨d, rfl⟩ : ∃ d, i = μ + d := ⟨i - μ, by omega⟩
   have e : (μ + d) * (μ + d) = μ * μ + d * (μ + μ + d) := sq_sum μ d
   have l1 : d * (μ + μ + d) ≤ g * (μ + μ + d) := Nat.mul_le_mul_right _ (by omega)
   have l2 : g * (μ + μ + d) < g * 2 ^ 129 := Nat.mul_lt_mul_of_pos_left (by omega) hG
   omega
  ·rw [if_neg h0] at hσ
   have hle : μ < i + 1 := sq_le (by omega)
   have hd : i + 1 ≤ μ + g := by omega
   obtain ⟨d, hd2⟩ : ∃ d, i + 1 = μ + d := ⟨i + 1 - μ, by omega⟩
   rw [hd2] at h2
   have e : (μ + d) * (μ + d) = μ * μ + d * (μ + μ + d) := sq_sum μ d
   have l1 : d * (μ + μ + d) ≤ g * (μ + μ + d) := Nat.mul_le_mul_right _ (by omega)
   have l2 : g * (μ + μ + d) ≤ g * 2 ^ 129 := Nat.mul_le_mul_left _ (by omega)
   omega
theorem sqN_form {f c : Nat} (hf : f < 3) (h0 : 0 < c) (h1 : c < inf f) : ∃ x, sqN f c = x * 2 ^ (255 - fP f) := by
 obtain ⟨n1, n2, n3, n4, n5, n6, n7, n8, n9⟩ := fmtN (show f < 4 by omega)
 have hu : ∃ y, unSig f c = y * 2 ^ (128 - fP f) := by
  unfold unSig
  by_cases hs : c < 2 ^ (fP f - 1)
  ·rw [if_pos hs]
   have hl : lenN c ≤ fP f := by
    rw [lenN_iff]; exact Nat.lt_of_lt_of_le hs (Nat.pow_le_pow_right (by decide) (by omega))
   exact ⟨c * 2 ^ (fP f - lenN c), by rw [Nat.mul_assoc, ← Nat.pow_add]; congr 2; omega⟩
  ·rw [if_neg hs]; exact ⟨_, rfl⟩
 obtain ⟨y, hy⟩ := hu
 unfold sqN
 split
 ·exact ⟨y * 2, by rw [hy, Nat.mul_assoc, Nat.mul_assoc, ← Nat.pow_add, ← Nat.pow_succ']; congr 2; omega⟩
 ·exact ⟨y, by rw [hy, Nat.mul_assoc, ← Nat.pow_add]; congr 2; omega⟩
theorem sqrt_double {f c K : Nat} {neg : Bool} (hf : f < 3) (h0 : 0 < c) (h1 : c < inf f) (hK : fP (f + 1) ≤ K + fP f) (hK1 : 1 ≤ K) :
  fcode (fP f) 0 neg (cval (fP (f + 1)) (fcode (fP (f + 1)) 0 neg (rtN f c * 2 ^ K) (rtD f c))) (2 ^ K) = fcode (fP f) 0 neg (rtN f c) (rtD f c) := by
 have hf4 : f < 4 := by omega
 have hpP : 2 * fP f + 2 ≤ fP (f + 1) := by rcases (show f = 0 ∨ f = 1 ∨ f = 2 by omega) with rfl | rfl | rfl <;> decide
 have hP3 := fP_le (show f + 1 < 4 by omega)
 have hp := fP_ge hf4
 have hP2 : 2 ≤ fP (f + 1) := by omega
 have hD := rt_pos f c
 obtain ⟨r1, r2⟩ := rt_rng hf4 h0 h1
 obtain ⟨s1, s2⟩ := sqN_rng hf4 h0 h1
 obtain ⟨i1, i2⟩ := isq_spec s2
 have j1 := jamR_lt s2
 have j2 := jamR_ge s2 s1
 obtain ⟨x, hx⟩ := sqN_form hf h0 h1
 obtain ⟨a, ha⟩ : ∃ a, rtN f c = jamR (sqN f c) * 2 ^ a := ⟨_, rfl⟩
 obtain ⟨b, hb⟩ : ∃ b, rtD f c = 2 ^ b := ⟨_, rfl⟩
 have hi := isq_lt s2
 refine double hp (by omega) hK1 hD fun e he H => ?_
 exfalso
 obtain ⟨n1, n2⟩ := near_val (P := fP (f + 1)) (N := rtN f c * 2 ^ K) (D := rtD f c) (neg := neg) hP2 hD
 have hr := near_rest hp he
 obtain ⟨g1, g2⟩ := (fsh_iff (p := fP (f + 1)) (N := rtN f c * 2 ^ K) (D := rtD f c) (s := fsh (fP (f + 1)) (rtN f c * 2 ^ K) (rtD f c)) hP2 hD).1 rfl
 obtain ⟨l1, l2⟩ := (fsh_iff (p := fP f) (N := rtN f c) (D := rtD f c) (s := fsh (fP f) (rtN f c) (rtD f c)) hp hD).1 rfl
 obtain ⟨f1, f2⟩ := fq_bounds (p := fP f) (N := rtN f c) (D := rtD f c) hp
 generalize hs : fsh (fP f) (rtN f c) (rtD f c) = σ at *
 generalize hS : fsh (fP (f + 1)) (rtN f c * 2 ^ K) (rtD f c) = S at *
 have l3 : rtD f c * 2 ^ (fP f - 1 + σ) ≤ rtN f c := by
  by_cases h : σ = 0
  ·subst h; exact r1
  ·exact l2 h
 have g3 : rtD f c * 2 ^ (fP (f + 1) - 1 + S) ≤ rtN f c * 2 ^ K := by
  by_cases h : S = 0
  ·subst h
   refine Nat.le_trans ?_ (Nat.mul_le_mul_right (2 ^ K) r1)
   rw [Nat.mul_assoc, ← Nat.pow_add]
   exact Nat.mul_le_mul_left _ (Nat.pow_le_pow_right (by decide) (by omega))
  ·exact g2 h
 generalize hq : rtN f c / (rtD f c * 2 ^ σ) = q at *
 have hJ : jamR (sqN f c) = isq (sqN f c) * 2 ^ 100 + if isq (sqN f c) * isq (sqN f c) = sqN f c then 0 else 1 := rfl
 rw [ha, hb] at *
 generalize jamR (sqN f c) = R at *
 generalize hfp : fP f = p at *
 generalize hfP : fP (f + 1) = P at *
 have lt2 : ∀ {m n : Nat}, 2 ^ m < 2 ^ n → m < n := fun h => (Nat.pow_lt_pow_iff_right (by decide : 1 < 2)).1 h
 have Rlo : 2 ^ (227 + a) ≤ R * 2 ^ a := by rw [Nat.pow_add]; exact Nat.mul_le_mul_right _ j2
 have Rhi : R * 2 ^ a < 2 ^ (228 + a) := by rw [Nat.pow_add]; exact Nat.mul_lt_mul_of_pos_right j1 (two_pow_pos a)
 rw [← Nat.pow_add] at l1 l3 g1 g3
 rw [Nat.mul_assoc, ← Nat.pow_add] at g1 g3
 have Rlo2 : 2 ^ (227 + (a + K)) ≤ R * 2 ^ (a + K) := by rw [Nat.pow_add 2 227 (a + K)]; exact Nat.mul_le_mul_right _ j2
 have Rhi2 : R * 2 ^ (a + K) < 2 ^ (228 + (a + K)) := by rw [Nat.pow_add 2 228 (a + K)]; exact Nat.mul_lt_mul_of_pos_right j1 (two_pow_pos _)
 have e1 := lt2 (Nat.lt_of_le_of_lt Rlo l1)
 have e2 := lt2 (Nat.lt_of_le_of_lt l3 Rhi)
 have e3 := lt2 (Nat.lt_of_le_of_lt Rlo2 g1)
 have e4 := lt2 (Nat.lt_of_le_of_lt g3 Rhi2)
 have hM : (cval p e + cval p (e + 1)) * 2 ^ K * 2 ^ b = (2 * q + 1) * 2 ^ (228 - p) * 2 ^ (a + K) := by
  rw [Nat.mul_right_comm, hr, Nat.mul_assoc, Nat.mul_assoc, Nat.mul_assoc, ← Nat.pow_add, ← Nat.pow_add, ← Nat.pow_add]; congr 2; omega
 have hE : 2 ^ b * 2 ^ S = 2 ^ (228 - P) * 2 ^ (a + K) := by rw [← Nat.pow_add, ← Nat.pow_add]; congr 1; omega
 rw [H, hM, hE, Nat.mul_assoc R, ← Nat.pow_add, ← Nat.mul_assoc 2 R, ← Nat.add_mul] at n1 n2
 have n1 := Nat.le_of_mul_le_mul_right n1 (two_pow_pos _)
 have n2 := Nat.le_of_mul_le_mul_right n2 (two_pow_pos _)
 rw [hJ] at n1 n2
 exact sqrt_core (σ := if isq (sqN f c) * isq (sqN f c) = sqN f c then 0 else 1) hp hpP hP3 f1 hi i1 i2 rfl hx n1 n2
end FP
end Go.Proofs.YtngiodcdelfdmaaGreatDoor
