import Derived.Test.YtngiodcdelfdmaaGreatDoorZQR6
import Derived.Test.YtngiodcdelfdmaaGreatDoorP20wR6
import Derived.Test.YtngiodcdelfdmaaGreatDoorS1aR6
namespace Go.Proofs.YtngiodcdelfdmaaGreatDoor
set_option linter.unusedVariables false
set_option linter.unusedSimpArgs false
set_option maxRecDepth 100000
open Go.RowKit
def pkB1 (f : Nat) (j : Bool) (a : Nat) : Nat := if 4 ≤ clsF f a then quN f a else if j = true then dfl f else 0
def pkF1 (f : Nat) (j : Bool) (a : Nat) : Nat := if 4 ≤ clsF f a then (if j = true ∨ clsF f a = 5 then 1 else 0) else if j = true then 1 else 0
def pkO1 (f : Nat) (j : Bool) (a : Nat) : Bool := decide (4 ≤ clsF f a) || j
theorem pkF1_le (f : Nat) (j : Bool) (a : Nat) : pkF1 f j a ≤ 1 := by unfold pkF1; split <;> split <;> decide
theorem s_nan_Pick_1' (f i a1 a0 : Int) (hf : fN f < 4) : F_nan_Pick_1 [f, i, a1, a0] = [wd (pkB1 (fN f) (iNz i) (nB a1 a0)) 1, wd (pkB1 (fN f) (iNz i) (nB a1 a0)) 0, ((pkF1 (fN f) (iNz i) (nB a1 a0) : Nat) : Int), b2i (pkO1 (fN f) (iNz i) (nB a1 a0))] := by
 rw [s_nan_Pick_1 _ _ _ _ hf]
 unfold pkB1 pkF1 pkO1
 by_cases h1 : 4 ≤ clsF (fN f) (nB a1 a0)
 ·simp only [h1, if_true, decide_true, Bool.true_or]
  split <;> rfl
 ·cases hi : iNz i with
  | true => simp only [h1, if_true, if_false, decide_false, Bool.false_or]; rfl
  | false => simp only [h1, if_false, decide_false, Bool.false_or, Bool.false_eq_true, wd_0]; rfl
def sqrtR (f m : Nat) (after : Bool) (a : Nat) : Nat × Nat :=
 if 4 ≤ clsF f a then (quN f a, if clsF f a = 5 then 1 else 0)
 else if FP.sgn f a = true ∧ ¬ clsF f a = 0 then (dfl f, 1)
 else if clsF f a = 0 then (FP.mk f (FP.sgn f a) 0, 0)
 else if clsF f a = 3 then (FP.mk f false (FP.inf f), 0)
 else (FP.mk f false (FP.sqrtC f m after (FP.cod f a)).1, (FP.sqrtC f m after (FP.cod f a)).2)
theorem leq_nk3 (x : Nat) : decide ((x : Int) ≤ 3) = decide (x ≤ 3) := by rw [decide_eq_decide]; omega
theorem tmod2 (x : Int) : (x.tmod 2 != 0) = decide (¬ x % 2 = 0) := by
 have h : x.tmod 2 = 0 ↔ x % 2 = 0 := by rw [← Int.dvd_iff_tmod_eq_zero, Int.dvd_iff_emod_eq_zero]
 by_cases h0 : x % 2 = 0
 ·rw [h.2 h0, decide_eq_false (fun k => k h0)]; rfl
 ·rw [decide_eq_true h0, bne_iff_ne]; exact fun k => h0 (h.1 k)
theorem op_rem (a b : Int) : iOp .rem .i64 a b = a.tmod b := rfl
theorem op_quo (a b : Int) : iOp .quo .i64 a b = i64 (a.tdiv b) := w64_i _
theorem even_100 (n : Nat) : n * 2 ^ 100 % 2 = 0 := by rw [show (2 : Nat) ^ 100 = 2 ^ 99 * 2 from Nat.pow_succ .., ← Nat.mul_assoc]; exact Nat.mul_mod_left _ _
theorem k_join' {x : Nat} (hx : x < W128) : F_wide_Join [wd x 1, wd x 0, 0, 0] = [wd (x * W128) 0, wd (x * W128) 1, wd (x * W128) 2, wd (x * W128) 3] := by
 rw [s_wide_Join, nB_small hx, show nB 0 0 = 0 from by unfold nB; rw [show u64 0 = 0 from by decide]; rfl, Nat.add_zero, oW_eq]
theorem k_root {n : Nat} (hn : n < W256) : fRoot [wd n 0, wd n 1, wd n 2, wd n 3] = [wd (FP.isq n) 1, wd (FP.isq n) 0, b2i (decide (FP.isq n * FP.isq n = n))] := by
 rw [fRoot_eq, nW_small hn, rtOut_eq]
theorem r100_lt {r : Nat} (hr : r < W128) : r * 2 ^ 100 + 1 < W256 := by
 rw [W128_pow] at hr
 have h2 : r * 2 ^ 100 ≤ 2 ^ 128 * 2 ^ 100 := Nat.mul_le_mul_right _ (Nat.le_of_lt hr)
 rw [← Nat.pow_add] at h2
 have h3 : (2 : Nat) ^ (128 + 100) + 1 < 2 ^ 256 := by decide
 rw [W256_pow]; omega
theorem W128_lt : W128 < W256 := by decide
theorem left100 {r : Nat} (hr : r < W128) : F_shift_WideLeft [wd r 0, wd r 1, wd r 2, wd r 3, 100] = [wd (r * 2 ^ 100) 0, wd (r * 2 ^ 100) 1, wd (r * 2 ^ 100) 2, wd (r * 2 ^ 100) 3] := by
 have h := Nat.lt_of_succ_lt (r100_lt hr)
 rw [s_shift_WideLeft, nW_small (Nat.lt_trans hr W128_lt), show (i64 100).toNat = 100 from by decide, Nat.mod_eq_of_lt h, oW_eq]
theorem tdiv2 {x : Int} (h : x % 2 = 0) : x.tdiv 2 = x / 2 := by
 obtain ⟨k, rfl⟩ : ∃ k, x = 2 * k := ⟨x / 2, by omega⟩
 rw [Int.mul_tdiv_cancel_left k (by decide)]; omega
theorem ex_even {e : Int} (h : (e - 255) % 2 = 0) (h1 : -17000 ≤ e) (h2 : e ≤ 17000) : i64 (i64 ((e - 255).tdiv 2) + 155) = (e - 255) / 2 + 155 := by
 rw [tdiv2 h, i64_id (n := (e - 255) / 2) (by omega) (by omega), i64_id (by omega) (by omega)]
theorem ex_odd {e : Int} (h : ¬ (e - 255) % 2 = 0) (h1 : -17000 ≤ e) (h2 : e ≤ 17000) : i64 (i64 ((e - 255 + 1).tdiv 2) + 155) = (e - 254) / 2 + 155 := by
 rw [tdiv2 (by omega), show (e - 255 + 1) / 2 = (e - 254) / 2 by omega, i64_id (n := (e - 254) / 2) (by omega) (by omega), i64_id (by omega) (by omega)]
theorem ex_rng {e : Int} (h1 : -17000 ≤ e) (h2 : e ≤ 17000) : (-20000 ≤ (e - 255) / 2 + 155 ∧ (e - 255) / 2 + 155 ≤ 20000) ∧ (-20000 ≤ (e - 254) / 2 + 155 ∧ (e - 254) / 2 + 155 ≤ 20000) := by omega
theorem ex_ids {e : Int} (h1 : -17000 ≤ e) (h2 : e ≤ 17000) : i64 e = e ∧ i64 (e - 255) = e - 255 ∧ i64 (e - 255 + 1) = e - 255 + 1 := ⟨i64_id (by omega) (by omega), i64_id (by omega) (by omega), i64_id (by omega) (by omega)⟩
theorem ex_z {e : Int} (h : -20000 ≤ e ∧ e ≤ 20000) : i64 e = e ∧ clipE e = e := ⟨i64_id (by omega) (by omega), clip_id (by omega) (by omega)⟩
theorem fl24 {k : Nat} (h : k = 0 ∨ k = 16 ∨ k = 20 ∨ k = 24) : u8 (k : Int) = (k : Int) := u8_id (by omega) (by omega)
theorem Y_eq (x : Nat) : x * 2 ^ 128 / 2 = x * 2 ^ 127 := by rw [show (2 : Nat) ^ 128 = 2 ^ 127 * 2 from Nat.pow_succ .., ← Nat.mul_assoc, Nat.mul_div_cancel _ (by decide)]
set_option maxHeartbeats 400000 in
theorem s_sqrt_Sqrt (f m t a1 a0 : Int) (hf : fN f < 4) (hm : u8 m ≤ 4) : F_sqrt_Sqrt [f, m, t, a1, a0] = oR (sqrtR (fN f) (u8 m).toNat (iNz t) (nB a1 a0)) := by
 have hf3 : fN (u8 f) < 4 := by rw [fN_u]; exact hf
 have known := known_f hf
 have knownm := known_m hm
 have sg : ∀ x, sgnF (fN f) x = FP.sgn (fN f) x := fun x => by unfold sgnF; rw [decide_eq_true hf, Bool.true_and]
 obtain ⟨x, hx⟩ : ∃ x, x = unS (fN f) (nB a1 a0) := ⟨_, rfl⟩
 obtain ⟨ea, hea⟩ : ∃ e, e = unE (fN f) (nB a1 a0) := ⟨_, rfl⟩
 obtain ⟨sA, hsA⟩ : ∃ s, s = FP.sgn (fN f) (nB a1 a0) := ⟨_, rfl⟩
 have ra := unE_rng (f := fN f) (b := nB a1 a0)
 rw [← hea] at ra
 have xl : x < W128 := by rw [hx]; exact un_lt _ _
 obtain ⟨iea, ie1, ie2⟩ := ex_ids ra.1 ra.2
 obtain ⟨rg1, rg2⟩ := ex_rng ra.1 ra.2
 have unA : F_fields_Unpack [u8 f, u64 a1, u64 a0] = [b2i sA, ((clsF (fN f) (nB a1 a0) : Nat) : Int), ea, wd x 1, wd x 0] := by
  rw [s_fields_Unpack, fN_u, nB_u, sg, oB_eq, hx, hea, hsA]; rfl
 have u8A := clsF_u8 (fN f) (nB a1 a0)
 have pk : ∀ (j : Int) (q : Bool), iNz j = q → F_nan_Pick_1 [u8 f, j, u64 a1, u64 a0] = [wd (pkB1 (fN f) q (nB a1 a0)) 1, wd (pkB1 (fN f) q (nB a1 a0)) 0, ((pkF1 (fN f) q (nB a1 a0) : Nat) : Int), b2i (pkO1 (fN f) q (nB a1 a0))] := fun j q hj => by
  rw [s_nan_Pick_1' _ _ _ _ hf3, fN_u, nB_u, hj]
 have pkN : pkO1 (fN f) (decide (clsF (fN f) (nB a1 a0) ≤ 3)) (nB a1 a0) = true := by
  unfold pkO1; simp only [Bool.or_eq_true, decide_eq_true_iff]; omega
 have pkF8 : ∀ q : Bool, u8 ((pkF1 (fN f) q (nB a1 a0) : Nat) : Int) = ((pkF1 (fN f) q (nB a1 a0) : Nat) : Int) := fun q => by
  have := pkF1_le (fN f) q (nB a1 a0)
  exact u8_id (by omega) (by omega)
 have infE : ∀ {s : Bool}, F_format_Inf [u8 f, b2i s] = [wd (FP.mk (fN f) s (FP.inf (fN f))) 1, wd (FP.mk (fN f) s (FP.inf (fN f))) 0] := fun {s} => by rw [s_format_Inf, fN_u, if_pos hf, iNz_b2i, oB_eq]
 have norE : ∀ {s : Bool}, F_format_Nought [u8 f, b2i s] = [wd (FP.mk (fN f) s 0) 1, wd (FP.mk (fN f) s 0) 0] := fun {s} => by rw [s_format_Nought, fN_u, if_pos hf, iNz_b2i, oB_eq]
 obtain ⟨X, hX⟩ : ∃ X, X = x * W128 := ⟨_, rfl⟩
 have joX : F_wide_Join [wd x 1, wd x 0, 0, 0] = [wd X 0, wd X 1, wd X 2, wd X 3] := by rw [hX]; exact k_join' xl
 have Xl : X < W256 := by rw [hX]; exact mul_W xl
 obtain ⟨Y, hY⟩ : ∃ Y, Y = X / 2 := ⟨_, rfl⟩
 have Yl : Y < W256 := by rw [hY]; exact Nat.lt_of_le_of_lt (Nat.div_le_self _ _) Xl
 have shY : F_shift_WideRight [wd X 0, wd X 1, wd X 2, wd X 3, 1] = [wd Y 0, wd Y 1, wd Y 2, wd Y 3] := by
  rw [s_shift_WideRight, nW_small Xl, show (i64 1).toNat = 1 from by decide, Nat.pow_one, ← hY, oW_eq]
 obtain ⟨r, hr⟩ : ∃ r, r = FP.isq X := ⟨_, rfl⟩
 obtain ⟨q, hq⟩ : ∃ q, q = FP.isq Y := ⟨_, rfl⟩
 have rl : r < W128 := by rw [hr, W128_pow]; exact FP.isq_lt (by rw [← W256_pow]; exact Xl)
 have ql : q < W128 := by rw [hq, W128_pow]; exact FP.isq_lt (by rw [← W256_pow]; exact Yl)
 have rtX := k_root Xl
 have rtY := k_root Yl
 rw [← hr] at rtX
 rw [← hq] at rtY
 have lX := r100_lt rl
 have leX := left100 rl
 have lY := r100_lt ql
 have leY := left100 ql
 rw [oR_eq']
 generalize hR : sqrtR (fN f) (u8 m).toNat (iNz t) (nB a1 a0) = R
 have hR' := hR
 unfold sqrtR at hR'
 rw [← hsA] at hR'
 have rN : sA = true → ¬ clsF (fN f) (nB a1 a0) = 0 → R = (pkB1 (fN f) (decide (clsF (fN f) (nB a1 a0) ≤ 3)) (nB a1 a0), pkF1 (fN f) (decide (clsF (fN f) (nB a1 a0) ≤ 3)) (nB a1 a0)) := fun h1 h2 => by
  rw [← hR']
  unfold pkB1 pkF1
  by_cases h : 4 ≤ clsF (fN f) (nB a1 a0)
  ·rw [if_pos h, if_pos h, if_pos h, decide_eq_false (show ¬ clsF (fN f) (nB a1 a0) ≤ 3 by omega)]
   simp only [Bool.false_eq_true, false_or]
  ·rw [if_neg h, if_neg h, if_neg h, decide_eq_true (show clsF (fN f) (nB a1 a0) ≤ 3 by omega), if_pos ⟨h1, h2⟩, if_pos rfl, if_pos rfl]
 have no_na : ¬ pkO1 (fN f) false (nB a1 a0) = true → ¬ 4 ≤ clsF (fN f) (nB a1 a0) := fun h => by
  unfold pkO1 at h
  simpa only [Bool.or_false, decide_eq_true_iff] using h
 have rP : pkO1 (fN f) false (nB a1 a0) = true → R = (pkB1 (fN f) false (nB a1 a0), pkF1 (fN f) false (nB a1 a0)) := fun h => by
  have h : 4 ≤ clsF (fN f) (nB a1 a0) := by
   unfold pkO1 at h
   simpa only [Bool.or_false, decide_eq_true_iff] using h
  rw [← hR']
  unfold pkB1 pkF1
  rw [if_pos h, if_pos h, if_pos h]
  simp only [Bool.false_eq_true, false_or]
 have rZ : ¬ pkO1 (fN f) false (nB a1 a0) = true → clsF (fN f) (nB a1 a0) = 0 → R = (FP.mk (fN f) sA 0, 0) := fun h h0 => by
  rw [← hR', if_neg (no_na h), if_neg (fun h => h.2 h0), if_pos h0]
 have rI : ¬ pkO1 (fN f) false (nB a1 a0) = true → ¬ sA = true → clsF (fN f) (nB a1 a0) = 3 → R = (FP.mk (fN f) sA (FP.inf (fN f)), 0) := fun h hs h3 => by
  rw [← hR', if_neg (no_na h), if_neg (fun h => hs h.1), if_neg (by omega), if_pos h3, Bool.eq_false_iff.2 hs]
 obtain ⟨Gd, hGd⟩ : ∃ Gd : Prop, Gd = (clsF (fN f) (nB a1 a0) = 1 ∨ clsF (fN f) (nB a1 a0) = 2) := ⟨_, rfl⟩
 have fin : ¬ pkO1 (fN f) false (nB a1 a0) = true → ¬ clsF (fN f) (nB a1 a0) = 0 → ¬ clsF (fN f) (nB a1 a0) = 3 → Gd := fun h h1 h2 => by
  have := no_na h
  rw [hGd]; omega
 obtain ⟨C, hC⟩ : ∃ C, C = FP.sqrtC (fN f) (u8 m).toNat (iNz t) (FP.cod (fN f) (nB a1 a0)) := ⟨_, rfl⟩
 have rF : Gd → ¬ sA = true → R = (FP.mk (fN f) false C.1, C.2) := fun g hs => by
  rw [hGd] at g
  rw [← hR', if_neg (by omega), if_neg (fun h => hs h.1), if_neg (by omega), if_neg (by omega), hC]
 have C8 : u8 (C.2 : Int) = (C.2 : Int) := by
  rw [hC, FP.sqrtC_eq]
  exact fl24 (FP.roundC_flag_set (FP.fP (fN f)) (FP.fE (fN f)) (u8 m).toNat (iNz t) false (FP.rtN (fN f) (FP.cod (fN f) (nB a1 a0))) (FP.rtD (fN f) (FP.cod (fN f) (nB a1 a0))))
 have rn : ∀ (Z : Nat) (e : Int), Gd → Z < W256 → e = FP.sqX (fN f) (FP.cod (fN f) (nB a1 a0)) + 155 → (-20000 ≤ e ∧ e ≤ 20000) → Z = FP.jamR (FP.sqN (fN f) (FP.cod (fN f) (nB a1 a0))) →
   F_pack_Round [u8 f, u8 m, b2i (iNz t), 0, e, wd Z 0, wd Z 1, wd Z 2, wd Z 3] = [wd (FP.mk (fN f) false C.1) 1, wd (FP.mk (fN f) false C.1) 0, (C.2 : Int)] := fun Z e g hZ he hr hj => by
  obtain ⟨z1, z2⟩ := ex_z hr
  rw [s_pack_Round _ _ _ _ _ _ _ _ _ hf3 (by rw [u8_u8]; exact hm), fN_u, u8_u8, iNz_b2i, show iNz 0 = false from rfl, z1, z2, nW_small hZ, he, hj, show FP.roundE (FP.fP (fN f)) (FP.fE (fN f)) (u8 m).toNat (iNz t) false (FP.sqX (fN f) (FP.cod (fN f) (nB a1 a0)) + 155) (FP.jamR (FP.sqN (fN f) (FP.cod (fN f) (nB a1 a0)))) = C from hC.symm, oB_eq]; rfl
 have evn : Gd → (ea - 255) % 2 = 0 → FP.sqN (fN f) (FP.cod (fN f) (nB a1 a0)) = X ∧ FP.sqX (fN f) (FP.cod (fN f) (nB a1 a0)) = (ea - 255) / 2 := fun g h => by
  rw [hGd] at g
  obtain ⟨b1, b2, b3, b4, b5⟩ := unS_big hf g
  rw [← hea] at b3
  rw [← hx] at b2
  unfold FP.sqN FP.sqX
  rw [← b3, ← b2, if_pos h, if_pos h, hX, W128_pow]
  exact ⟨rfl, rfl⟩
 have odd : Gd → ¬ (ea - 255) % 2 = 0 → FP.sqN (fN f) (FP.cod (fN f) (nB a1 a0)) = Y ∧ FP.sqX (fN f) (FP.cod (fN f) (nB a1 a0)) = (ea - 254) / 2 := fun g h => by
  rw [hGd] at g
  obtain ⟨b1, b2, b3, b4, b5⟩ := unS_big hf g
  rw [← hea] at b3
  rw [← hx] at b2
  unfold FP.sqN FP.sqX
  rw [← b3, ← b2, if_neg h, if_neg h, hY, hX, W128_pow, Y_eq]
  exact ⟨rfl, rfl⟩
 have rnX0 : Gd → ¬ ¬ (ea - 255) % 2 = 0 → ¬ ¬ r * r = X → F_pack_Round [u8 f, u8 m, b2i (iNz t), 0, i64 (i64 ((ea - 255).tdiv 2) + 155), wd (r * 2 ^ 100) 0, wd (r * 2 ^ 100) 1, wd (r * 2 ^ 100) 2, wd (r * 2 ^ 100) 3] = [wd (FP.mk (fN f) false C.1) 1, wd (FP.mk (fN f) false C.1) 0, (C.2 : Int)] := fun g h hz => by
  have h := Decidable.not_not.1 h
  obtain ⟨n1, n2⟩ := evn g h
  rw [ex_even h ra.1 ra.2]
  exact rn _ _ g (Nat.lt_of_succ_lt lX) (by rw [n2]) rg1 (by rw [n1]; unfold FP.jamR; rw [← hr, if_pos (Decidable.not_not.1 hz), Nat.add_zero])
 have rnX1 : Gd → ¬ ¬ (ea - 255) % 2 = 0 → ¬ r * r = X → F_pack_Round [u8 f, u8 m, b2i (iNz t), 0, i64 (i64 ((ea - 255).tdiv 2) + 155), iOp .or .u64 (wd (r * 2 ^ 100) 0) 1, wd (r * 2 ^ 100) 1, wd (r * 2 ^ 100) 2, wd (r * 2 ^ 100) 3] = [wd (FP.mk (fN f) false C.1) 1, wd (FP.mk (fN f) false C.1) 0, (C.2 : Int)] := fun g h hz => by
  have h := Decidable.not_not.1 h
  obtain ⟨n1, n2⟩ := evn g h
  obtain ⟨o1, o2, o3, o4⟩ := wd_or1 (even_100 r)
  rw [ex_even h ra.1 ra.2, o1, o2, o3, o4]
  exact rn _ _ g lX (by rw [n2]) rg1 (by rw [n1]; unfold FP.jamR; rw [← hr, if_neg hz])
 have rnY0 : Gd → ¬ (ea - 255) % 2 = 0 → ¬ ¬ q * q = Y → F_pack_Round [u8 f, u8 m, b2i (iNz t), 0, i64 (i64 ((ea - 255 + 1).tdiv 2) + 155), wd (q * 2 ^ 100) 0, wd (q * 2 ^ 100) 1, wd (q * 2 ^ 100) 2, wd (q * 2 ^ 100) 3] = [wd (FP.mk (fN f) false C.1) 1, wd (FP.mk (fN f) false C.1) 0, (C.2 : Int)] := fun g h hz => by
  obtain ⟨n1, n2⟩ := odd g h
  rw [ex_odd h ra.1 ra.2]
  exact rn _ _ g (Nat.lt_of_succ_lt lY) (by rw [n2]) rg2 (by rw [n1]; unfold FP.jamR; rw [← hq, if_pos (Decidable.not_not.1 hz), Nat.add_zero])
 have rnY1 : Gd → ¬ (ea - 255) % 2 = 0 → ¬ q * q = Y → F_pack_Round [u8 f, u8 m, b2i (iNz t), 0, i64 (i64 ((ea - 255 + 1).tdiv 2) + 155), iOp .or .u64 (wd (q * 2 ^ 100) 0) 1, wd (q * 2 ^ 100) 1, wd (q * 2 ^ 100) 2, wd (q * 2 ^ 100) 3] = [wd (FP.mk (fN f) false C.1) 1, wd (FP.mk (fN f) false C.1) 0, (C.2 : Int)] := fun g h hz => by
  obtain ⟨n1, n2⟩ := odd g h
  obtain ⟨o1, o2, o3, o4⟩ := wd_or1 (even_100 q)
  rw [ex_odd h ra.1 ra.2, o1, o2, o3, o4]
  exact rn _ _ g lY (by rw [n2]) rg2 (by rw [n1]; unfold FP.jamR; rw [← hq, if_neg hz])
 clear rn evn odd hr hq hX hY hR' no_na
 rw [F_sqrt_Sqrt, t_sqrt_Sqrt]
 refine tF (by simp only [sxs]; exact known) ?_
 refine tF (by simp only [sxs]; exact knownm) ?_
 refine (treeF_call (r := [b2i sA, ((clsF (fN f) (nB a1 a0) : Nat) : Int), ea, wd (x) 1, wd (x) 0]) (by simp only [sxs, ph_S1a_fields_Unpack]; exact unA) (by rfl)).trans ?_
 refine tI (sA = true) (by simp only [sxs]; exact (Bool.decide_coe _).symm) (fun h1 => ?_) (fun h1 => ?_)
 ·refine tI (¬ clsF (fN f) (nB a1 a0) = 0) (by simp only [sxs, u8A]; exact bne_nk _ 0) (fun h2 => ?_) (fun h2 => ?_)
  ·refine (treeF_call (r := [wd (pkB1 (fN f) (decide (clsF (fN f) (nB a1 a0) ≤ 3)) (nB a1 a0)) 1, wd (pkB1 (fN f) (decide (clsF (fN f) (nB a1 a0) ≤ 3)) (nB a1 a0)) 0, ((pkF1 (fN f) (decide (clsF (fN f) (nB a1 a0) ≤ 3)) (nB a1 a0) : Nat) : Int), b2i (pkO1 (fN f) (decide (clsF (fN f) (nB a1 a0) ≤ 3)) (nB a1 a0))]) (by simp only [sxs, ph_S1a_nan_Pick_1, u8A]; exact pk _ _ (by first | rfl | (simp only [iNz_b2i, leq_nk3]))) (by rfl)).trans ?_
   refine tT (by simp only [sxs]; exact pkN) ?_
   rw [treeF_leaf rfl]
   simp only [sxs]
   rw [rN h1 h2]
   simp only [pkF8]
  ·refine (treeF_call (r := [wd (pkB1 (fN f) false (nB a1 a0)) 1, wd (pkB1 (fN f) false (nB a1 a0)) 0, ((pkF1 (fN f) false (nB a1 a0) : Nat) : Int), b2i (pkO1 (fN f) false (nB a1 a0))]) (by simp only [sxs, ph_S1a_nan_Pick_1, u8A]; exact pk _ _ (by first | rfl | (simp only [iNz_b2i, leq_nk3]))) (by rfl)).trans ?_
   refine tI (pkO1 (fN f) false (nB a1 a0) = true) (by simp only [sxs]; exact (Bool.decide_coe _).symm) (fun h3 => ?_) (fun h3 => ?_)
   ·rw [treeF_leaf rfl]
    simp only [sxs]
    rw [rP h3]
    simp only [pkF8]
   ·refine (treeF_call (r := [wd (FP.mk (fN f) sA 0) 1, wd (FP.mk (fN f) sA 0) 0]) (by simp only [sxs, ph_S1a_format_Nought]; exact norE) (by rfl)).trans ?_
    rw [treeF_leaf rfl]
    simp only [sxs]
    rw [rZ h3 (Decidable.not_not.1 h2)]
    rfl
 ·refine (treeF_call (r := [wd (pkB1 (fN f) false (nB a1 a0)) 1, wd (pkB1 (fN f) false (nB a1 a0)) 0, ((pkF1 (fN f) false (nB a1 a0) : Nat) : Int), b2i (pkO1 (fN f) false (nB a1 a0))]) (by simp only [sxs, ph_S1a_nan_Pick_1, u8A]; exact pk _ _ (by first | rfl | (simp only [iNz_b2i, leq_nk3]))) (by rfl)).trans ?_
  refine tI (pkO1 (fN f) false (nB a1 a0) = true) (by simp only [sxs]; exact (Bool.decide_coe _).symm) (fun h4 => ?_) (fun h4 => ?_)
  ·rw [treeF_leaf rfl]
   simp only [sxs]
   rw [rP h4]
   simp only [pkF8]
  ·refine tI (clsF (fN f) (nB a1 a0) = 0) (by simp only [sxs, u8A]; exact beq_nk _ 0) (fun h5 => ?_) (fun h5 => ?_)
   ·refine (treeF_call (r := [wd (FP.mk (fN f) sA 0) 1, wd (FP.mk (fN f) sA 0) 0]) (by simp only [sxs, ph_S1a_format_Nought]; exact norE) (by rfl)).trans ?_
    rw [treeF_leaf rfl]
    simp only [sxs]
    rw [rZ h4 h5]
    rfl
   ·refine tI (clsF (fN f) (nB a1 a0) = 3) (by simp only [sxs, u8A]; exact beq_nk _ 3) (fun h6 => ?_) (fun h6 => ?_)
    ·refine (treeF_call (r := [wd (FP.mk (fN f) sA (FP.inf (fN f))) 1, wd (FP.mk (fN f) sA (FP.inf (fN f))) 0]) (by simp only [sxs, ph_S1a_format_Inf]; exact infE) (by rfl)).trans ?_
     rw [treeF_leaf rfl]
     simp only [sxs]
     rw [rI h4 h1 h6]
     rfl
    ·refine (treeF_call (r := [wd (X) 0, wd (X) 1, wd (X) 2, wd (X) 3]) (by simp only [sxs, ph_S1a_wide_Join]; exact joX) (by rfl)).trans ?_
     refine tI (¬ (ea - 255) % 2 = 0) (by simp only [sxs, iea, ie1, op_rem]; exact tmod2 _) (fun h7 => ?_) (fun h7 => ?_)
     ·refine (treeF_call (r := [wd (Y) 0, wd (Y) 1, wd (Y) 2, wd (Y) 3]) (by simp only [sxs, ph_S1a_shift_WideRight]; exact shY) (by rfl)).trans ?_
      refine (treeF_call (r := [wd q 1, wd q 0, b2i (decide (q * q = Y))]) (by simp only [sxs, ph_S1a_root_Root]; exact rtY) (by rfl)).trans ?_
      refine (treeF_call (r := [wd (q) 0, wd (q) 1, wd (q) 2, wd (q) 3]) (by simp only [sxs, ph_S1a_wide_Of]; exact k_wideOf ql) (by rfl)).trans ?_
      refine (treeF_call (r := [wd (q * 2 ^ 100) 0, wd (q * 2 ^ 100) 1, wd (q * 2 ^ 100) 2, wd (q * 2 ^ 100) 3]) (by simp only [sxs, ph_S1a_shift_WideLeft]; exact leY) (by rfl)).trans ?_
      refine tI (¬ q * q = Y) (by simp only [sxs]; exact (decide_not).symm) (fun h8 => ?_) (fun h8 => ?_)
      ·refine (treeF_call (r := [wd (FP.mk (fN f) false C.1) 1, wd (FP.mk (fN f) false C.1) 0, (C.2 : Int)]) (by simp only [sxs, ph_S1a_pack_Round, iea, ie1, ie2, op_quo]; exact rnY1 (fin h4 h5 h6) h7 h8) (by rfl)).trans ?_
       rw [treeF_leaf rfl]
       simp only [sxs]
       rw [rF (fin h4 h5 h6) h1, C8]
      ·refine (treeF_call (r := [wd (FP.mk (fN f) false C.1) 1, wd (FP.mk (fN f) false C.1) 0, (C.2 : Int)]) (by simp only [sxs, ph_S1a_pack_Round, iea, ie1, ie2, op_quo]; exact rnY0 (fin h4 h5 h6) h7 h8) (by rfl)).trans ?_
       rw [treeF_leaf rfl]
       simp only [sxs]
       rw [rF (fin h4 h5 h6) h1, C8]
     ·refine (treeF_call (r := [wd r 1, wd r 0, b2i (decide (r * r = X))]) (by simp only [sxs, ph_S1a_root_Root]; exact rtX) (by rfl)).trans ?_
      refine (treeF_call (r := [wd (r) 0, wd (r) 1, wd (r) 2, wd (r) 3]) (by simp only [sxs, ph_S1a_wide_Of]; exact k_wideOf rl) (by rfl)).trans ?_
      refine (treeF_call (r := [wd (r * 2 ^ 100) 0, wd (r * 2 ^ 100) 1, wd (r * 2 ^ 100) 2, wd (r * 2 ^ 100) 3]) (by simp only [sxs, ph_S1a_shift_WideLeft]; exact leX) (by rfl)).trans ?_
      refine tI (¬ r * r = X) (by simp only [sxs]; exact (decide_not).symm) (fun h9 => ?_) (fun h9 => ?_)
      ·refine (treeF_call (r := [wd (FP.mk (fN f) false C.1) 1, wd (FP.mk (fN f) false C.1) 0, (C.2 : Int)]) (by simp only [sxs, ph_S1a_pack_Round, iea, ie1, ie2, op_quo]; exact rnX1 (fin h4 h5 h6) h7 h9) (by rfl)).trans ?_
       rw [treeF_leaf rfl]
       simp only [sxs]
       rw [rF (fin h4 h5 h6) h1, C8]
      ·refine (treeF_call (r := [wd (FP.mk (fN f) false C.1) 1, wd (FP.mk (fN f) false C.1) 0, (C.2 : Int)]) (by simp only [sxs, ph_S1a_pack_Round, iea, ie1, ie2, op_quo]; exact rnX0 (fin h4 h5 h6) h7 h9) (by rfl)).trans ?_
       rw [treeF_leaf rfl]
       simp only [sxs]
       rw [rF (fin h4 h5 h6) h1, C8]
end Go.Proofs.YtngiodcdelfdmaaGreatDoor
