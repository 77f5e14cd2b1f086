import Derived.Test.YtkfbdlidigmfbaaGreatDoorZRR7
import Derived.Test.YtkfbdlidigmfbaaGreatDoorZQR7
import Derived.Test.YtkfbdlidigmfbaaGreatDoorZNR7
namespace Go.Proofs.YtkfbdlidigmfbaaGreatDoor
set_option linter.unusedVariables false
set_option linter.unusedSimpArgs false
set_option maxRecDepth 100000
open Go.RowKit
theorem nbeq (a b : Bool) : (!(a == b)) = decide (¬ a = b) := by cases a <;> cases b <;> rfl
theorem k_join {x : Nat} (hx : x < W128) : F_wide_Join [wd x 1, wd x 0, 0, 0] = [wd (x * W128) 0, wd (x * W128) 1, wd (x * W128) 2, wd (x * W128) 3] := by
 rw [s_wide_Join, nB_small hx, show nB 0 0 = 0 from by unfold nB; rw [show u64 0 = 0 from by decide]; rfl, Nat.add_zero, oW_eq]
theorem pkO_no {f a b : Nat} {q : Bool} (h : ¬ pkO2 f q a b = true) : ¬ 4 ≤ clsF f a ∧ ¬ 4 ≤ clsF f b ∧ q = false := by
 unfold pkO2 at h
 simp only [Bool.or_eq_true, decide_eq_true_iff, not_or, Bool.not_eq_true] at h
 exact h
theorem addR_pick {f a b m : Nat} {after q : Bool} (hq : addI f a b = q) (h : pkO2 f q a b = true) : addR f m after a b = (pkB2 f q a b, pkF2 f q a b) := by
 unfold addR pkB2 pkF2 nanFlag
 by_cases h1 : 4 ≤ clsF f a
 ·have hq2 : ¬ q = true := by rw [← hq]; intro h3; have := (addI_cls h3).1; omega
  simp only [h1, hq2, if_true, true_or, false_or, Bool.false_eq_true]
 ·by_cases h2 : 4 ≤ clsF f b
  ·have hq2 : ¬ q = true := by rw [← hq]; intro h3; have := (addI_cls h3).2; omega
   simp only [h1, h2, hq2, if_true, if_false, or_true, false_or, Bool.false_eq_true]
  ·have hq2 : q = true := by
    unfold pkO2 at h
    simpa only [Bool.or_eq_true, decide_eq_true_iff, h1, h2, false_or] using h
   rw [hq2] at hq
   simp only [h1, h2, hq, hq2, if_true, if_false, or_self]
theorem addR_num {f a b m : Nat} {after q : Bool} (hq : addI f a b = q) (h : ¬ pkO2 f q a b = true) : addR f m after a b = if clsF f a = 3 then (FP.mk f (FP.sgn f a) (FP.inf f), 0)
 else if clsF f b = 3 then (FP.mk f (FP.sgn f b) (FP.inf f), 0)
 else (FP.mk f (FP.addN f m (FP.sgn f a) (FP.sgn f b) (FP.cod f a) (FP.cod f b)) (FP.addC f m after (FP.sgn f a) (FP.sgn f b) (FP.cod f a) (FP.cod f b)).1, (FP.addC f m after (FP.sgn f a) (FP.sgn f b) (FP.cod f a) (FP.cod f b)).2) := by
 obtain ⟨h1, h2, h3⟩ := pkO_no h
 unfold addR
 rw [if_neg h1, if_neg h2, if_neg (by rw [hq, h3]; exact Bool.false_ne_true)]
theorem tm_un {f a : Nat} (hf : f < 4) (h : clsF f a < 3) : FP.tmE f (FP.cod f a) = unE f a ∧ FP.tmS f (FP.cod f a) = unS f a * W128 := by
 obtain ⟨h1, h2, h3⟩ := cls_fin hf h
 unfold FP.tmE FP.tmS unE unS
 by_cases h0 : clsF f a = 0
 ·rw [if_pos (h2.1 h0), if_pos (h2.1 h0), if_neg (by omega), if_neg (by omega), Nat.zero_mul]; exact ⟨rfl, rfl⟩
 ·rw [if_neg (fun h => h0 (h2.2 h)), if_neg (fun h => h0 (h2.2 h)), if_pos (by omega), if_pos (by omega), W128_pow]; exact ⟨rfl, rfl⟩
theorem resT_eq (s t : Bool) (ea : Int) (x : Nat) (eb : Int) (y : Nat) : FP.resT s t ea x eb y = if s = t then FP.sumT ea x eb y else dfT ea x eb y := by
 unfold FP.resT dfT; rfl
theorem resS_eq (s t : Bool) (ea : Int) (x : Nat) (eb : Int) (y : Nat) (h : ¬ s = t) : FP.resS s t ea x eb y = !(s == decide (FP.cmpT ea x eb y < 0)) := by
 unfold FP.resS
 rw [if_neg h]
 by_cases hc : FP.cmpT ea x eb y < 0
 ·rw [if_pos hc, decide_eq_true hc]; revert h; cases s <;> cases t <;> decide
 ·rw [if_neg hc, decide_eq_false hc]; cases s <;> rfl
theorem beq_m3 (m : Int) : (u8 m == 3) = decide ((u8 m).toNat = 3) := by
 have := u8_rng m
 rw [Bool.eq_iff_iff, beq_iff_eq, decide_eq_true_iff]; omega
theorem res_rng {ea eb : Int} (x y : Nat) (ha : -40000 ≤ ea ∧ ea ≤ 40000) (hb : -40000 ≤ eb ∧ eb ≤ 40000) : (-40001 ≤ (FP.sumT ea x eb y).1 ∧ (FP.sumT ea x eb y).1 ≤ 40001) ∧ (-40001 ≤ (dfT ea x eb y).1 ∧ (dfT ea x eb y).1 ≤ 40001) := by
 have hl : ∀ (p q : Int) (u v : Nat), -40000 ≤ p ∧ p ≤ 40000 → -40000 ≤ q ∧ q ≤ 40000 → -40000 ≤ FP.lvl p u q v ∧ FP.lvl p u q v ≤ 40000 := fun p q u v hp hq => by
  unfold FP.lvl; split
  ·exact hq
  ·split
   ·exact hp
   ·omega
 have h1 := hl ea eb x y ha hb
 have h2 := hl eb ea y x hb ha
 unfold FP.sumT dfT FP.difT
 refine ⟨by simp only []; omega, ?_⟩
 split
 ·simp only []; omega
 ·simp only []; omega
set_option maxHeartbeats 1500000 in
theorem s_addsub_Add (f m t a1 a0 b1 b0 : Int) (hf : fN f < 4) (hm : u8 m ≤ 4) : F_addsub_Add [f, m, t, a1, a0, b1, b0] = oR (addR (fN f) (u8 m).toNat (iNz t) (nB a1 a0) (nB b1 b0)) := by
 have hf3 : fN (u8 f) < 4 := by rw [fN_u]; exact hf
 have known := known_f hf
 have knownm := known_m hm
 have sg : ∀ x, sgnF (fN f) x = FP.sgn (fN f) x := fun x => by unfold sgnF; rw [decide_eq_true hf, Bool.true_and]
 obtain ⟨x, hx⟩ : ∃ x, x = unS (fN f) (nB a1 a0) := ⟨_, rfl⟩
 obtain ⟨y, hy⟩ : ∃ y, y = unS (fN f) (nB b1 b0) := ⟨_, rfl⟩
 obtain ⟨ea, hea⟩ : ∃ e, e = unE (fN f) (nB a1 a0) := ⟨_, rfl⟩
 obtain ⟨eb, heb⟩ : ∃ e, e = unE (fN f) (nB b1 b0) := ⟨_, rfl⟩
 obtain ⟨sA, hsA⟩ : ∃ s, s = FP.sgn (fN f) (nB a1 a0) := ⟨_, rfl⟩
 obtain ⟨sB, hsB⟩ : ∃ s, s = FP.sgn (fN f) (nB b1 b0) := ⟨_, rfl⟩
 have ra := unE_rng (f := fN f) (b := nB a1 a0)
 have rb := unE_rng (f := fN f) (b := nB b1 b0)
 rw [← hea] at ra
 rw [← heb] at rb
 have xl : x < W128 := by rw [hx]; exact un_lt _ _
 have yl : y < W128 := by rw [hy]; exact un_lt _ _
 have iea : i64 ea = ea := i64_id (by omega) (by omega)
 have ieb : i64 eb = eb := i64_id (by omega) (by omega)
 have unA : F_fields_Unpack [u8 f, u64 a1, u64 a0] = [b2i sA, ((clsF (fN f) (nB a1 a0) : Nat) : Int), ea, wd x 1, wd x 0] := by
  rw [s_fields_Unpack, fN_u, nB_u, sg, oB_eq, hx, hea, hsA]; rfl
 have unB : F_fields_Unpack [u8 f, u64 b1, u64 b0] = [b2i sB, ((clsF (fN f) (nB b1 b0) : Nat) : Int), eb, wd y 1, wd y 0] := by
  rw [s_fields_Unpack, fN_u, nB_u, sg, oB_eq, hy, heb, hsB]; rfl
 have u8A := clsF_u8 (fN f) (nB a1 a0)
 have u8B := clsF_u8 (fN f) (nB b1 b0)
 have pk : ∀ (j : Int) (q : Bool), iNz j = q → F_nan_Pick_2 [u8 f, j, u64 a1, u64 a0, u64 b1, u64 b0] = [wd (pkB2 (fN f) q (nB a1 a0) (nB b1 b0)) 1, wd (pkB2 (fN f) q (nB a1 a0) (nB b1 b0)) 0, ((pkF2 (fN f) q (nB a1 a0) (nB b1 b0) : Nat) : Int), b2i (pkO2 (fN f) q (nB a1 a0) (nB b1 b0))] := fun j q hj => by
  rw [s_nan_Pick_2' _ _ _ _ _ _ hf3, fN_u, nB_u, nB_u, hj]
 have infE : ∀ {s : Bool}, F_format_Inf [u8 f, b2i s] = [wd (FP.mk (fN f) s (FP.inf (fN f))) 1, wd (FP.mk (fN f) s (FP.inf (fN f))) 0] := fun {s} => by rw [s_format_Inf, fN_u, if_pos hf, iNz_b2i, oB_eq]
 obtain ⟨X, hX⟩ : ∃ X, X = x * W128 := ⟨_, rfl⟩
 obtain ⟨Y, hY⟩ : ∃ Y, Y = y * W128 := ⟨_, rfl⟩
 have joX : F_wide_Join [wd x 1, wd x 0, 0, 0] = [wd X 0, wd X 1, wd X 2, wd X 3] := by rw [hX]; exact k_join xl
 have joY : F_wide_Join [wd y 1, wd y 0, 0, 0] = [wd Y 0, wd Y 1, wd Y 2, wd Y 3] := by rw [hY]; exact k_join yl
 have Xl : X < W256 := by rw [hX]; exact mul_W xl
 have Yl : Y < W256 := by rw [hY]; exact mul_W yl
 have sa : exS ea := by unfold exS; omega
 have sb : exS eb := by unfold exS; omega
 have suE := k_mag_Sum sa sb Xl Yl
 have diE := k_mag_Diff sa sb Xl Yl
 have Ul0 := sum_lt (ea := ea) (eb := eb) Xl Yl
 have Dl0 := dfT_lt (ea := ea) (eb := eb) Xl Yl
 obtain ⟨ru, rd⟩ := res_rng (ea := ea) (eb := eb) X Y (by omega) (by omega)
 rw [oR_eq']
 generalize hR : addR (fN f) (u8 m).toNat (iNz t) (nB a1 a0) (nB b1 b0) = R
 have rP : ∀ q : Bool, addI (fN f) (nB a1 a0) (nB b1 b0) = q → pkO2 (fN f) q (nB a1 a0) (nB b1 b0) = true → R = (pkB2 (fN f) q (nB a1 a0) (nB b1 b0), pkF2 (fN f) q (nB a1 a0) (nB b1 b0)) := fun q h1 h2 => by rw [← hR]; exact addR_pick h1 h2
 have aI : clsF (fN f) (nB a1 a0) = 3 → clsF (fN f) (nB b1 b0) = 3 → addI (fN f) (nB a1 a0) (nB b1 b0) = (sA != sB) := fun h1 h2 => by unfold addI; rw [h1, h2, ← hsA, ← hsB]; rfl
 have aN : ¬ (clsF (fN f) (nB a1 a0) = 3 ∧ clsF (fN f) (nB b1 b0) = 3) → addI (fN f) (nB a1 a0) (nB b1 b0) = false := fun h => by
  rw [← Bool.not_eq_true]; exact fun h2 => h (addI_cls h2)
 have rA : ∀ q : Bool, addI (fN f) (nB a1 a0) (nB b1 b0) = q → ¬ pkO2 (fN f) q (nB a1 a0) (nB b1 b0) = true → clsF (fN f) (nB a1 a0) = 3 → R = (FP.mk (fN f) sA (FP.inf (fN f)), 0) := fun q hq h h1 => by
  rw [← hR, addR_num hq h, if_pos h1, hsA]
 have rB : ∀ q : Bool, addI (fN f) (nB a1 a0) (nB b1 b0) = q → ¬ pkO2 (fN f) q (nB a1 a0) (nB b1 b0) = true → ¬ clsF (fN f) (nB a1 a0) = 3 → clsF (fN f) (nB b1 b0) = 3 → R = (FP.mk (fN f) sB (FP.inf (fN f)), 0) := fun q hq h h1 h2 => by
  rw [← hR, addR_num hq h, if_neg h1, if_pos h2, hsB]
 have pkF8 : ∀ q : Bool, u8 ((pkF2 (fN f) q (nB a1 a0) (nB b1 b0) : Nat) : Int) = ((pkF2 (fN f) q (nB a1 a0) (nB b1 b0) : Nat) : Int) := fun q => by
  have := pkF2_le (fN f) q (nB a1 a0) (nB b1 b0)
  exact u8_id (by omega) (by omega)
 obtain ⟨Gd, hGd⟩ : ∃ Gd : Prop, Gd = (clsF (fN f) (nB a1 a0) < 3 ∧ clsF (fN f) (nB b1 b0) < 3) := ⟨_, rfl⟩
 have fin : ¬ pkO2 (fN f) false (nB a1 a0) (nB b1 b0) = true → ¬ clsF (fN f) (nB a1 a0) = 3 → ¬ clsF (fN f) (nB b1 b0) = 3 → Gd := fun h h1 h2 => by
  obtain ⟨k1, k2, k3⟩ := pkO_no h
  rw [hGd]; omega
 obtain ⟨N, hN⟩ : ∃ N, N = FP.addN (fN f) (u8 m).toNat sA sB (FP.cod (fN f) (nB a1 a0)) (FP.cod (fN f) (nB b1 b0)) := ⟨_, rfl⟩
 obtain ⟨C, hC⟩ : ∃ C, C = FP.addC (fN f) (u8 m).toNat (iNz t) sA sB (FP.cod (fN f) (nB a1 a0)) (FP.cod (fN f) (nB b1 b0)) := ⟨_, rfl⟩
 have C8 : u8 (C.2 : Int) = (C.2 : Int) := by
  have h : C.2 ≤ 24 := by
   rw [hC]; unfold FP.addC
   have := FP.roundC_flag_set (FP.fP (fN f)) (FP.fE (fN f)) (u8 m).toNat (iNz t) (FP.addN (fN f) (u8 m).toNat sA sB (FP.cod (fN f) (nB a1 a0)) (FP.cod (fN f) (nB b1 b0))) (FP.sgV sA sB (FP.val (fN f) (FP.cod (fN f) (nB a1 a0))) (FP.val (fN f) (FP.cod (fN f) (nB b1 b0)))) 1
   omega
  exact u8_id (by omega) (by omega)
 have rF : Gd → R = (FP.mk (fN f) N C.1, C.2) := fun g => by
  rw [hGd] at g
  have h : ¬ pkO2 (fN f) false (nB a1 a0) (nB b1 b0) = true := by
   unfold pkO2; simp only [Bool.or_eq_true, decide_eq_true_iff, Bool.false_eq_true, or_false]; omega
  have g1 : ¬ clsF (fN f) (nB a1 a0) = 3 := by omega
  have g2 : ¬ clsF (fN f) (nB b1 b0) = 3 := by omega
  rw [← hR, addR_num (aN (fun h => g1 h.1)) h, if_neg g1, if_neg g2, hN, hC, hsA, hsB]
 obtain ⟨U, hU⟩ : ∃ U, U = FP.sumT ea X eb Y := ⟨_, rfl⟩
 obtain ⟨D, hD⟩ : ∃ D, D = dfT ea X eb Y := ⟨_, rfl⟩
 obtain ⟨L, hL⟩ : ∃ L, L = decide (FP.cmpT ea X eb Y < 0) := ⟨_, rfl⟩
 rw [← hU] at suE ru Ul0
 rw [← hD, ← hL] at diE
 rw [← hD] at rd Dl0
 have Ul : U.2 < W256 := Ul0
 have Dl : D.2 < W256 := Dl0
 have rn : ∀ (Z : Int × Nat) (n : Bool), Gd → Z.2 < W256 → (-40001 ≤ Z.1 ∧ Z.1 ≤ 40001) → Z = FP.resT sA sB ea X eb Y → (if Z.2 = 0 then (if sA = sB then sA else decide ((u8 m).toNat = 3)) else FP.resS sA sB ea X eb Y) = n →
   F_pack_Round [u8 f, u8 m, b2i (iNz t), b2i n, i64 Z.1, wd Z.2 0, wd Z.2 1, wd Z.2 2, wd Z.2 3] = [wd (FP.mk (fN f) N C.1) 1, wd (FP.mk (fN f) N C.1) 0, (C.2 : Int)] := fun Z n g hZ hr hz hn => by
  rw [hGd] at g
  obtain ⟨t1, t2⟩ := tm_un hf g.1
  obtain ⟨t3, t4⟩ := tm_un hf g.2
  obtain ⟨k1, k2⟩ := FP.add_res (m := (u8 m).toNat) (after := iNz t) hf (cls_fin hf g.1).1 (cls_fin hf g.2).1 sA sB
  rw [t1, t2, t3, t4, ← hea, ← heb, ← hx, ← hy, ← hX, ← hY, ← hz] at k1 k2
  rw [hn, ← hN] at k1
  rw [← hN, ← hC] at k2
  have z1 : i64 Z.1 = Z.1 := i64_id (by omega) (by omega)
  have z2 : clipE Z.1 = Z.1 := clip_id (by omega) (by omega)
  rw [s_pack_Round _ _ _ _ _ _ _ _ _ hf3 (by rw [u8_u8]; exact hm), fN_u, u8_u8, iNz_b2i, iNz_b2i, i64_i64, z1, z2, nW_small hZ, k1, k2, oB_eq]; rfl
 have rnU : Gd → sA = sB → F_pack_Round [u8 f, u8 m, b2i (iNz t), b2i sA, i64 U.1, wd U.2 0, wd U.2 1, wd U.2 2, wd U.2 3] = [wd (FP.mk (fN f) N C.1) 1, wd (FP.mk (fN f) N C.1) 0, (C.2 : Int)] := fun g h => by
  refine rn U sA g Ul ru (by rw [resT_eq, if_pos h, hU]) ?_
  rw [if_pos h]
  unfold FP.resS
  rw [if_pos h]
  split <;> rfl
 have rnZ : Gd → ¬ sA = sB → D.2 = 0 → F_pack_Round [u8 f, u8 m, b2i (iNz t), b2i (u8 m == 3), i64 D.1, wd D.2 0, wd D.2 1, wd D.2 2, wd D.2 3] = [wd (FP.mk (fN f) N C.1) 1, wd (FP.mk (fN f) N C.1) 0, (C.2 : Int)] := fun g h z => by
  refine rn D _ g Dl rd (by rw [resT_eq, if_neg h, hD]) ?_
  rw [if_pos z, if_neg h, beq_m3]
 have rnD : Gd → ¬ sA = sB → ¬ D.2 = 0 → F_pack_Round [u8 f, u8 m, b2i (iNz t), b2i (!(sA == L)), i64 D.1, wd D.2 0, wd D.2 1, wd D.2 2, wd D.2 3] = [wd (FP.mk (fN f) N C.1) 1, wd (FP.mk (fN f) N C.1) 0, (C.2 : Int)] := fun g h z => by
  refine rn D _ g Dl rd (by rw [resT_eq, if_neg h, hD]) ?_
  rw [if_neg z, resS_eq _ _ _ _ _ _ h, ← hL]
 clear rn hU hD hL
 rw [F_addsub_Add, t_addsub_Add]
 refine tF (by simp only [sxs]; exact known) ?_
 refine tF (by simp only [sxs]; exact knownm) ?_
 refine (treeF_call (r := [b2i sA, ((clsF (fN f) (nB a1 a0) : Nat) : Int), ea, wd (x) 1, wd (x) 0]) (by simp only [sxs, ph_A3_fields_Unpack]; exact unA) (by rfl)).trans ?_
 refine (treeF_call (r := [b2i sB, ((clsF (fN f) (nB b1 b0) : Nat) : Int), eb, wd (y) 1, wd (y) 0]) (by simp only [sxs, ph_A3_fields_Unpack]; exact unB) (by rfl)).trans ?_
 refine tI (clsF (fN f) (nB a1 a0) = 3) (by simp only [sxs, u8A]; exact beq_nk _ 3) (fun h1 => ?_) (fun h1 => ?_)
 ·refine tI (clsF (fN f) (nB b1 b0) = 3) (by simp only [sxs, u8B]; exact beq_nk _ 3) (fun h2 => ?_) (fun h2 => ?_)
  ·refine (treeF_call (r := [wd (pkB2 (fN f) (sA != sB) (nB a1 a0) (nB b1 b0)) 1, wd (pkB2 (fN f) (sA != sB) (nB a1 a0) (nB b1 b0)) 0, ((pkF2 (fN f) (sA != sB) (nB a1 a0) (nB b1 b0) : Nat) : Int), b2i (pkO2 (fN f) (sA != sB) (nB a1 a0) (nB b1 b0))]) (by simp only [sxs, ph_A3_nan_Pick_2]; exact pk _ _ (by first | rfl | (simp only [iNz_b2i]; rfl))) (by rfl)).trans ?_
   refine tI (pkO2 (fN f) (sA != sB) (nB a1 a0) (nB b1 b0) = true) (by simp only [sxs]; exact (Bool.decide_coe _).symm) (fun h3 => ?_) (fun h3 => ?_)
   ·rw [treeF_leaf rfl]
    simp only [sxs]
    rw [rP _ (aI h1 h2) h3]
    simp only [pkF8]
   ·refine (treeF_call (r := [wd (FP.mk (fN f) sA (FP.inf (fN f))) 1, wd (FP.mk (fN f) sA (FP.inf (fN f))) 0]) (by simp only [sxs, ph_A3_format_Inf]; exact infE) (by rfl)).trans ?_
    rw [treeF_leaf rfl]
    simp only [sxs]
    rw [rA _ (aI h1 h2) h3 h1]
    rfl
  ·refine (treeF_call (r := [wd (pkB2 (fN f) false (nB a1 a0) (nB b1 b0)) 1, wd (pkB2 (fN f) false (nB a1 a0) (nB b1 b0)) 0, ((pkF2 (fN f) false (nB a1 a0) (nB b1 b0) : Nat) : Int), b2i (pkO2 (fN f) false (nB a1 a0) (nB b1 b0))]) (by simp only [sxs, ph_A3_nan_Pick_2]; exact pk _ _ (by first | rfl | (simp only [iNz_b2i]; rfl))) (by rfl)).trans ?_
   refine tI (pkO2 (fN f) false (nB a1 a0) (nB b1 b0) = true) (by simp only [sxs]; exact (Bool.decide_coe _).symm) (fun h4 => ?_) (fun h4 => ?_)
   ·rw [treeF_leaf rfl]
    simp only [sxs]
    rw [rP _ (aN (by omega)) h4]
    simp only [pkF8]
   ·refine (treeF_call (r := [wd (FP.mk (fN f) sA (FP.inf (fN f))) 1, wd (FP.mk (fN f) sA (FP.inf (fN f))) 0]) (by simp only [sxs, ph_A3_format_Inf]; exact infE) (by rfl)).trans ?_
    rw [treeF_leaf rfl]
    simp only [sxs]
    rw [rA _ (aN (by omega)) h4 h1]
    rfl
 ·refine (treeF_call (r := [wd (pkB2 (fN f) false (nB a1 a0) (nB b1 b0)) 1, wd (pkB2 (fN f) false (nB a1 a0) (nB b1 b0)) 0, ((pkF2 (fN f) false (nB a1 a0) (nB b1 b0) : Nat) : Int), b2i (pkO2 (fN f) false (nB a1 a0) (nB b1 b0))]) (by simp only [sxs, ph_A3_nan_Pick_2]; exact pk _ _ (by first | rfl | (simp only [iNz_b2i]; rfl))) (by rfl)).trans ?_
  refine tI (pkO2 (fN f) false (nB a1 a0) (nB b1 b0) = true) (by simp only [sxs]; exact (Bool.decide_coe _).symm) (fun h5 => ?_) (fun h5 => ?_)
  ·rw [treeF_leaf rfl]
   simp only [sxs]
   rw [rP _ (aN (by omega)) h5]
   simp only [pkF8]
  ·refine tI (clsF (fN f) (nB b1 b0) = 3) (by simp only [sxs, u8B]; exact beq_nk _ 3) (fun h6 => ?_) (fun h6 => ?_)
   ·refine (treeF_call (r := [wd (FP.mk (fN f) sB (FP.inf (fN f))) 1, wd (FP.mk (fN f) sB (FP.inf (fN f))) 0]) (by simp only [sxs, ph_A3_format_Inf]; exact infE) (by rfl)).trans ?_
    rw [treeF_leaf rfl]
    simp only [sxs]
    rw [rB _ (aN (by omega)) h5 h1 h6]
    rfl
   ·refine tI (¬ sA = sB) (by simp only [sxs]; exact nbeq _ _) (fun h7 => ?_) (fun h7 => ?_)
    ·refine (treeF_call (r := [wd (X) 0, wd (X) 1, wd (X) 2, wd (X) 3]) (by simp only [sxs, ph_A3_wide_Join]; exact joX) (by rfl)).trans ?_
     refine (treeF_call (r := [wd (Y) 0, wd (Y) 1, wd (Y) 2, wd (Y) 3]) (by simp only [sxs, ph_A3_wide_Join]; exact joY) (by rfl)).trans ?_
     refine (treeF_call (r := [D.1, wd (D.2) 0, wd (D.2) 1, wd (D.2) 2, wd (D.2) 3, b2i L]) (by simp only [sxs, ph_A3_mag_Diff, iea, ieb]; exact diE) (by rfl)).trans ?_
     refine (treeF_call (r := [b2i (decide (D.2 = 0))]) (by simp only [sxs, ph_A3_wide_Zero]; exact k_wideZero Dl) (by rfl)).trans ?_
     refine tI (D.2 = 0) (by simp only [sxs]; try rfl) (fun h8 => ?_) (fun h8 => ?_)
     ·refine (treeF_call (r := [wd (FP.mk (fN f) N C.1) 1, wd (FP.mk (fN f) N C.1) 0, (C.2 : Int)]) (by simp only [sxs, ph_A3_pack_Round]; exact rnZ (fin h5 h1 h6) h7 h8) (by rfl)).trans ?_
      rw [treeF_leaf rfl]
      simp only [sxs]
      rw [rF (fin h5 h1 h6), C8]
     ·refine (treeF_call (r := [wd (FP.mk (fN f) N C.1) 1, wd (FP.mk (fN f) N C.1) 0, (C.2 : Int)]) (by simp only [sxs, ph_A3_pack_Round]; exact rnD (fin h5 h1 h6) h7 h8) (by rfl)).trans ?_
      rw [treeF_leaf rfl]
      simp only [sxs]
      rw [rF (fin h5 h1 h6), C8]
    ·refine (treeF_call (r := [wd (X) 0, wd (X) 1, wd (X) 2, wd (X) 3]) (by simp only [sxs, ph_A3_wide_Join]; exact joX) (by rfl)).trans ?_
     refine (treeF_call (r := [wd (Y) 0, wd (Y) 1, wd (Y) 2, wd (Y) 3]) (by simp only [sxs, ph_A3_wide_Join]; exact joY) (by rfl)).trans ?_
     refine (treeF_call (r := [U.1, wd (U.2) 0, wd (U.2) 1, wd (U.2) 2, wd (U.2) 3]) (by simp only [sxs, ph_A3_mag_Sum, iea, ieb]; exact suE) (by rfl)).trans ?_
     refine (treeF_call (r := [b2i (decide (U.2 = 0))]) (by simp only [sxs, ph_A3_wide_Zero]; exact k_wideZero Ul) (by rfl)).trans ?_
     refine tI (U.2 = 0) (by simp only [sxs]; try rfl) (fun h9 => ?_) (fun h9 => ?_)
     ·refine (treeF_call (r := [wd (FP.mk (fN f) N C.1) 1, wd (FP.mk (fN f) N C.1) 0, (C.2 : Int)]) (by simp only [sxs, ph_A3_pack_Round]; exact rnU (fin h5 h1 h6) (Decidable.not_not.1 h7)) (by rfl)).trans ?_
      rw [treeF_leaf rfl]
      simp only [sxs]
      rw [rF (fin h5 h1 h6), C8]
     ·refine (treeF_call (r := [wd (FP.mk (fN f) N C.1) 1, wd (FP.mk (fN f) N C.1) 0, (C.2 : Int)]) (by simp only [sxs, ph_A3_pack_Round]; exact rnU (fin h5 h1 h6) (Decidable.not_not.1 h7)) (by rfl)).trans ?_
      rw [treeF_leaf rfl]
      simp only [sxs]
      rw [rF (fin h5 h1 h6), C8]
end Go.Proofs.YtkfbdlidigmfbaaGreatDoor
