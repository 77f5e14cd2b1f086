import Derived.Test.YtngiodcdelfdmaaGreatDoorP34R4
import Derived.Test.YtngiodcdelfdmaaGreatDoorP18aR4
import Derived.Test.YtngiodcdelfdmaaGreatDoorP20wR4
import Derived.Test.YtngiodcdelfdmaaGreatDoorH1R4
import Derived.Test.YtngiodcdelfdmaaGreatDoorZGR4
import Derived.Test.YtngiodcdelfdmaaGreatDoorZNR4
namespace Go.Proofs.YtngiodcdelfdmaaGreatDoor
set_option linter.unusedVariables false
set_option linter.unusedSimpArgs false
set_option maxRecDepth 100000
open Go.RowKit
theorem ex_id17 {e : Int} (h : -17000 ≤ e ∧ e ≤ 17000) : i64 e = e := i64_id (by omega) (by omega)
theorem ex_z40 {e : Int} (h : -40001 ≤ e ∧ e ≤ 40001) : i64 e = e ∧ clipE e = e := ⟨i64_id (by omega) (by omega), clip_id (by omega) (by omega)⟩
theorem notdec (b : Bool) : (!b) = decide (¬ b = true) := by cases b <;> rfl
theorem ex_sum {a b : Int} (ha : -17000 ≤ a ∧ a ≤ 17000) (hb : -17000 ≤ b ∧ b ≤ 17000) : i64 (i64 (a + b) + 1) = a + b + 1 := by rw [i64_id (n := a + b) (by omega) (by omega), i64_id (by omega) (by omega)]
theorem W256_pos' : 0 < W256 := by decide
theorem fl24 {k : Nat} (h : k = 0 ∨ k = 16 ∨ k = 20 ∨ k = 24) : u8 (k : Int) = (k : Int) := u8_id (by omega) (by omega)
set_option maxHeartbeats 800000 in
theorem s_fma_Fma (f m t a1 a0 b1 b0 c1 c0 : Int) (hf : fN f < 4) (hm : u8 m ≤ 4) : F_fma_Fma [f, m, t, a1, a0, b1, b0, c1, c0] = oR (fmaR (fN f) (u8 m).toNat (iNz t) (nB a1 a0) (nB b1 b0) (nB c1 c0)) := by
 have hf3 : fN (u8 f) < 4 := by rw [fN_u]; exact hf
 have known := known_f hf
 have knownm := known_m hm
 have sg : ∀ x, sgnF (fN f) x = FP.sgn (fN f) x := fun x => by unfold sgnF; rw [decide_eq_true hf, Bool.true_and]
 obtain ⟨x, hx⟩ : ∃ x, x = unS (fN f) (nB a1 a0) := ⟨_, rfl⟩
 obtain ⟨ea, hea⟩ : ∃ e, e = unE (fN f) (nB a1 a0) := ⟨_, rfl⟩
 obtain ⟨sA, hsA⟩ : ∃ s, s = FP.sgn (fN f) (nB a1 a0) := ⟨_, rfl⟩
 have ra := unE_rng (f := fN f) (b := nB a1 a0)
 rw [← hea] at ra
 have xl : x < W128 := by rw [hx]; exact un_lt _ _
 have iea : i64 ea = ea := (ex_id17 ra)
 have unA : F_fields_Unpack [u8 f, u64 a1, u64 a0] = [b2i sA, ((clsF (fN f) (nB a1 a0) : Nat) : Int), ea, wd x 1, wd x 0] := by
  rw [s_fields_Unpack, fN_u, nB_u, sg, oB_eq, hx, hea, hsA]; rfl
 have u8A := clsF_u8 (fN f) (nB a1 a0)
 obtain ⟨y, hy⟩ : ∃ x, x = unS (fN f) (nB b1 b0) := ⟨_, rfl⟩
 obtain ⟨eb, heb⟩ : ∃ e, e = unE (fN f) (nB b1 b0) := ⟨_, rfl⟩
 obtain ⟨sB, hsB⟩ : ∃ s, s = FP.sgn (fN f) (nB b1 b0) := ⟨_, rfl⟩
 have rb := unE_rng (f := fN f) (b := nB b1 b0)
 rw [← heb] at rb
 have yl : y < W128 := by rw [hy]; exact un_lt _ _
 have ieb : i64 eb = eb := (ex_id17 rb)
 have unB : F_fields_Unpack [u8 f, u64 b1, u64 b0] = [b2i sB, ((clsF (fN f) (nB b1 b0) : Nat) : Int), eb, wd y 1, wd y 0] := by
  rw [s_fields_Unpack, fN_u, nB_u, sg, oB_eq, hy, heb, hsB]; rfl
 have u8B := clsF_u8 (fN f) (nB b1 b0)
 obtain ⟨z, hz'⟩ : ∃ x, x = unS (fN f) (nB c1 c0) := ⟨_, rfl⟩
 obtain ⟨ec, hec⟩ : ∃ e, e = unE (fN f) (nB c1 c0) := ⟨_, rfl⟩
 obtain ⟨sC, hsC⟩ : ∃ s, s = FP.sgn (fN f) (nB c1 c0) := ⟨_, rfl⟩
 have rc := unE_rng (f := fN f) (b := nB c1 c0)
 rw [← hec] at rc
 have zl : z < W128 := by rw [hz']; exact un_lt _ _
 have iec : i64 ec = ec := (ex_id17 rc)
 have unC : F_fields_Unpack [u8 f, u64 c1, u64 c0] = [b2i sC, ((clsF (fN f) (nB c1 c0) : Nat) : Int), ec, wd z 1, wd z 0] := by
  rw [s_fields_Unpack, fN_u, nB_u, sg, oB_eq, hz', hec, hsC]; rfl
 have u8C := clsF_u8 (fN f) (nB c1 c0)
 obtain ⟨sP, hsP⟩ : ∃ s : Bool, s = (sA != sB) := ⟨_, rfl⟩
 have nsP : (!(sA == sB)) = sP := by rw [hsP]; rfl
 have pk : ∀ (j : Int) (q : Bool), iNz j = q → F_nan_Pick_3 [u8 f, j, u64 a1, u64 a0, u64 b1, u64 b0, u64 c1, u64 c0] = [wd (pkB3 (fN f) q (nB a1 a0) (nB b1 b0) (nB c1 c0)) 1, wd (pkB3 (fN f) q (nB a1 a0) (nB b1 b0) (nB c1 c0)) 0, ((pkF3 (fN f) q (nB a1 a0) (nB b1 b0) (nB c1 c0) : Nat) : Int), b2i (pkO3 (fN f) q (nB a1 a0) (nB b1 b0) (nB c1 c0))] := fun j q hj => by
  rw [s_nan_Pick_3' _ _ _ _ _ _ _ _ hf3, fN_u, nB_u, nB_u, nB_u, hj]
 have infE : ∀ {s : Bool}, F_format_Inf [u8 f, b2i s] = [wd (FP.mk (fN f) s (FP.inf (fN f))) 1, wd (FP.mk (fN f) s (FP.inf (fN f))) 0] := fun {s} => by rw [s_format_Inf, fN_u, if_pos hf, iNz_b2i, oB_eq]
 have JE : fmaJ (fN f) (nB a1 a0) (nB b1 b0) (nB c1 c0) = (badC (clsF (fN f) (nB a1 a0)) (clsF (fN f) (nB b1 b0)) || (((decide (clsF (fN f) (nB a1 a0) = 3) || decide (clsF (fN f) (nB b1 b0) = 3)) && (decide (clsF (fN f) (nB c1 c0) = 3) && (sP != sC))) && !pkO3 (fN f) false (nB a1 a0) (nB b1 b0) (nB c1 c0))) := by
  unfold fmaJ fmaI infAB
  rw [← hsA, ← hsB, ← hsC, ← hsP]
  cases badC (clsF (fN f) (nB a1 a0)) (clsF (fN f) (nB b1 b0)) <;> simp
 have j1 : badC (clsF (fN f) (nB a1 a0)) (clsF (fN f) (nB b1 b0)) = true → iNz 1 = fmaJ (fN f) (nB a1 a0) (nB b1 b0) (nB c1 c0) := fun h => by rw [JE, h]; rfl
 have j0a : ¬ badC (clsF (fN f) (nB a1 a0)) (clsF (fN f) (nB b1 b0)) = true → ¬ clsF (fN f) (nB a1 a0) = 3 → ¬ clsF (fN f) (nB b1 b0) = 3 → iNz 0 = fmaJ (fN f) (nB a1 a0) (nB b1 b0) (nB c1 c0) := fun h h1 h2 => by rw [JE, Bool.eq_false_iff.2 h, decide_eq_false h1, decide_eq_false h2]; rfl
 have j0c : ¬ badC (clsF (fN f) (nB a1 a0)) (clsF (fN f) (nB b1 b0)) = true → ¬ clsF (fN f) (nB c1 c0) = 3 → iNz 0 = fmaJ (fN f) (nB a1 a0) (nB b1 b0) (nB c1 c0) := fun h h1 => by rw [JE, Bool.eq_false_iff.2 h, decide_eq_false h1, Bool.false_and, Bool.and_false]; rfl
 have j0n : ¬ badC (clsF (fN f) (nB a1 a0)) (clsF (fN f) (nB b1 b0)) = true → sP = sC → iNz 0 = fmaJ (fN f) (nB a1 a0) (nB b1 b0) (nB c1 c0) := fun h h1 => by rw [JE, Bool.eq_false_iff.2 h, h1, bne_self_eq_false, Bool.and_false, Bool.and_false]; rfl
 have j2 : ¬ badC (clsF (fN f) (nB a1 a0)) (clsF (fN f) (nB b1 b0)) = true → (clsF (fN f) (nB a1 a0) = 3 ∨ clsF (fN f) (nB b1 b0) = 3) → clsF (fN f) (nB c1 c0) = 3 → ¬ sP = sC → iNz (b2i (!pkO3 (fN f) false (nB a1 a0) (nB b1 b0) (nB c1 c0))) = fmaJ (fN f) (nB a1 a0) (nB b1 b0) (nB c1 c0) := fun h h1 h2 h3 => by
  have e1 : (decide (clsF (fN f) (nB a1 a0) = 3) || decide (clsF (fN f) (nB b1 b0) = 3)) = true := by simpa using h1
  have e2 : (sP != sC) = true := by simpa using h3
  rw [JE, Bool.eq_false_iff.2 h, e1, e2, decide_eq_true h2, iNz_b2i]; rfl
 obtain ⟨ep, hep⟩ : ∃ e : Int, e = (if (clsF (fN f) (nB a1 a0) = 1 ∨ clsF (fN f) (nB a1 a0) = 2) ∧ (clsF (fN f) (nB b1 b0) = 1 ∨ clsF (fN f) (nB b1 b0) = 2) then ea + eb + 1 else 0) := ⟨_, rfl⟩
 obtain ⟨P, hP⟩ : ∃ e : Nat, e = (if (clsF (fN f) (nB a1 a0) = 1 ∨ clsF (fN f) (nB a1 a0) = 2) ∧ (clsF (fN f) (nB b1 b0) = 1 ∨ clsF (fN f) (nB b1 b0) = 2) then x * y else 0) := ⟨_, rfl⟩
 have rp : -34001 ≤ ep ∧ ep ≤ 34001 := by rw [hep]; split <;> omega
 have Pl : P < W256 := by
  rw [hP]; split
  ·exact prod_lt xl yl
  ·exact W256_pos'
 have tmE : F_mul_Term [b2i sA, ((clsF (fN f) (nB a1 a0) : Nat) : Int), ea, wd x 1, wd x 0, b2i sB, ((clsF (fN f) (nB b1 b0) : Nat) : Int), eb, wd y 1, wd y 0] = [ep, wd P 0, wd P 1, wd P 2, wd P 3] := by
  rw [s_mul_Term, u8A, u8B, hep, hP, nB_small xl, nB_small yl]
  by_cases h : (clsF (fN f) (nB a1 a0) = 1 ∨ clsF (fN f) (nB a1 a0) = 2) ∧ (clsF (fN f) (nB b1 b0) = 1 ∨ clsF (fN f) (nB b1 b0) = 2)
  ·rw [if_pos h, if_pos h, if_pos (by omega), iea, ieb, ex_sum ra rb, oW_eq]; rfl
  ·rw [if_neg h, if_neg h, if_neg (by omega)]; simp only [wd_0]
 have baE : F_mul_Bad [b2i sA, ((clsF (fN f) (nB a1 a0) : Nat) : Int), ea, wd x 1, wd x 0, b2i sB, ((clsF (fN f) (nB b1 b0) : Nat) : Int), eb, wd y 1, wd y 0] = [b2i (badC (clsF (fN f) (nB a1 a0)) (clsF (fN f) (nB b1 b0)))] := by
  rw [s_mul_Bad, u8A, u8B, Int.toNat_natCast, Int.toNat_natCast]
 have iep : i64 ep = ep := (ex_z40 (by omega)).1
 have iec' := iec
 obtain ⟨Z, hZ⟩ : ∃ Z, Z = z * W128 := ⟨_, rfl⟩
 have joZ : F_wide_Join [wd z 1, wd z 0, 0, 0] = [wd Z 0, wd Z 1, wd Z 2, wd Z 3] := by rw [hZ]; exact k_join zl
 have Zl : Z < W256 := by rw [hZ]; exact mul_W zl
 have sp : exS ep := by unfold exS; omega
 have sc : exS ec := by unfold exS; omega
 have suE := k_mag_Sum sp sc Pl Zl
 have diE := k_mag_Diff sp sc Pl Zl
 have Ul0 := sum_lt (ea := ep) (eb := ec) Pl Zl
 have Dl0 := dfT_lt (ea := ep) (eb := ec) Pl Zl
 obtain ⟨ru, rd⟩ := res_rng (ea := ep) (eb := ec) P Z (by omega) (by omega)
 rw [oR_eq']
 generalize hR : fmaR (fN f) (u8 m).toNat (iNz t) (nB a1 a0) (nB b1 b0) (nB c1 c0) = R
 have nab : ¬ clsF (fN f) (nB a1 a0) = 3 → ¬ clsF (fN f) (nB b1 b0) = 3 → ¬ clsF (fN f) (nB a1 a0) = 3 ∧ ¬ clsF (fN f) (nB b1 b0) = 3 := fun h1 h2 => ⟨h1, h2⟩
 have rP : pkO3 (fN f) (fmaJ (fN f) (nB a1 a0) (nB b1 b0) (nB c1 c0)) (nB a1 a0) (nB b1 b0) (nB c1 c0) = true → R = (pkB3 (fN f) (fmaJ (fN f) (nB a1 a0) (nB b1 b0) (nB c1 c0)) (nB a1 a0) (nB b1 b0) (nB c1 c0), pkF3 (fN f) (fmaJ (fN f) (nB a1 a0) (nB b1 b0) (nB c1 c0)) (nB a1 a0) (nB b1 b0) (nB c1 c0)) := fun h => by rw [← hR]; exact fmaR_pick h
 have rA : ¬ pkO3 (fN f) (fmaJ (fN f) (nB a1 a0) (nB b1 b0) (nB c1 c0)) (nB a1 a0) (nB b1 b0) (nB c1 c0) = true → (clsF (fN f) (nB a1 a0) = 3 ∨ clsF (fN f) (nB b1 b0) = 3) → R = (FP.mk (fN f) sP (FP.inf (fN f)), 0) := fun h h2 => by
  rw [← hR, (fmaR_num h).1]
  have hi : infAB (fN f) (nB a1 a0) (nB b1 b0) = true := by unfold infAB; simpa using h2
  unfold fmaSg fmaSc
  rw [if_pos hi, if_pos hi, hsP, hsA, hsB]
 have rC : ¬ pkO3 (fN f) (fmaJ (fN f) (nB a1 a0) (nB b1 b0) (nB c1 c0)) (nB a1 a0) (nB b1 b0) (nB c1 c0) = true → (¬ clsF (fN f) (nB a1 a0) = 3 ∧ ¬ clsF (fN f) (nB b1 b0) = 3) → clsF (fN f) (nB c1 c0) = 3 → R = (FP.mk (fN f) sC (FP.inf (fN f)), 0) := fun h h2 h3 => by
  rw [← hR, (fmaR_num h).1]
  have hi : ¬ infAB (fN f) (nB a1 a0) (nB b1 b0) = true := by unfold infAB; simpa using h2
  unfold fmaSg fmaSc
  rw [if_neg hi, if_neg hi, if_pos h3, if_pos h3, hsC]
 have pkF8 : ∀ q : Bool, u8 ((pkF3 (fN f) q (nB a1 a0) (nB b1 b0) (nB c1 c0) : Nat) : Int) = ((pkF3 (fN f) q (nB a1 a0) (nB b1 b0) (nB c1 c0) : Nat) : Int) := fun q => by
  have := pkF3_le (fN f) q (nB a1 a0) (nB b1 b0) (nB c1 c0)
  exact u8_id (by omega) (by omega)
 obtain ⟨Gd, hGd⟩ : ∃ Gd : Prop, Gd = (clsF (fN f) (nB a1 a0) < 3 ∧ clsF (fN f) (nB b1 b0) < 3 ∧ clsF (fN f) (nB c1 c0) < 3) := ⟨_, rfl⟩
 have fin : ¬ pkO3 (fN f) (fmaJ (fN f) (nB a1 a0) (nB b1 b0) (nB c1 c0)) (nB a1 a0) (nB b1 b0) (nB c1 c0) = true → (¬ clsF (fN f) (nB a1 a0) = 3 ∧ ¬ clsF (fN f) (nB b1 b0) = 3) → ¬ clsF (fN f) (nB c1 c0) = 3 → Gd := fun h h1 h2 => by
  obtain ⟨k1, k2, k3⟩ := (fmaR_num (m := 0) (after := false) h).2.1
  rw [hGd]; omega
 obtain ⟨N, hN⟩ : ∃ N, N = FP.fmaN (fN f) (u8 m).toNat sP sC (FP.cod (fN f) (nB a1 a0)) (FP.cod (fN f) (nB b1 b0)) (FP.cod (fN f) (nB c1 c0)) := ⟨_, rfl⟩
 obtain ⟨C, hC⟩ : ∃ C, C = FP.fmaC (fN f) (u8 m).toNat (iNz t) sP sC (FP.cod (fN f) (nB a1 a0)) (FP.cod (fN f) (nB b1 b0)) (FP.cod (fN f) (nB c1 c0)) := ⟨_, rfl⟩
 have C8 : u8 (C.2 : Int) = (C.2 : Int) := by
  rw [hC]; unfold FP.fmaC
  exact fl24 (FP.roundC_flag_set _ _ _ _ _ _ _)
 have rF : Gd → ¬ pkO3 (fN f) (fmaJ (fN f) (nB a1 a0) (nB b1 b0) (nB c1 c0)) (nB a1 a0) (nB b1 b0) (nB c1 c0) = true → R = (FP.mk (fN f) N C.1, C.2) := fun g h => by
  rw [hGd] at g
  rw [← hR, (fmaR_num h).1]
  have hi : ¬ infAB (fN f) (nB a1 a0) (nB b1 b0) = true := by unfold infAB; simp; omega
  have h3 : ¬ clsF (fN f) (nB c1 c0) = 3 := by omega
  unfold fmaSg fmaSc
  rw [if_neg hi, if_neg hi, if_neg h3, if_neg h3, hN, hC, hsP, hsA, hsB, hsC]
 obtain ⟨U, hU⟩ : ∃ U, U = FP.sumT ep P ec Z := ⟨_, rfl⟩
 obtain ⟨D, hD⟩ : ∃ D, D = dfT ep P ec Z := ⟨_, rfl⟩
 obtain ⟨L, hL⟩ : ∃ L, L = decide (FP.cmpT ep P ec Z < 0) := ⟨_, rfl⟩
 rw [← hU] at suE ru Ul0
 rw [← hD, ← hL] at diE
 rw [← hD] at rd Dl0
 have Ul : U.2 < W256 := Ul0
 have Dl : D.2 < W256 := Dl0
 have rn : ∀ (V : Int × Nat) (n : Bool), Gd → V.2 < W256 → (-40001 ≤ V.1 ∧ V.1 ≤ 40001) → V = FP.resT sP sC ep P ec Z → (if V.2 = 0 then (if sP = sC then sP else decide ((u8 m).toNat = 3)) else FP.resS sP sC ep P ec Z) = n →
   F_pack_Round [u8 f, u8 m, b2i (iNz t), b2i (n), i64 V.1, wd V.2 0, wd V.2 1, wd V.2 2, wd V.2 3] = [wd (FP.mk (fN f) N C.1) 1, wd (FP.mk (fN f) N C.1) 0, (C.2 : Int)] := fun V n g hV hr hz hn => by
  rw [hGd] at g
  obtain ⟨t1, t2⟩ := tp_un hf g.1 g.2.1
  obtain ⟨t3, t4⟩ := tm_un hf g.2.2
  obtain ⟨k1, k2⟩ := FP.fma_res (m := (u8 m).toNat) (after := iNz t) hf (cls_fin hf g.1).1 (cls_fin hf g.2.1).1 (cls_fin hf g.2.2).1 sP sC
  rw [t1, t2, t3, t4, ← hea, ← heb, ← hec, ← hx, ← hy, ← hz', ← hZ, ← hep, ← hP, ← hz] at k1 k2
  rw [hn, ← hN] at k1
  rw [← hN, ← hC] at k2
  obtain ⟨z1, z2⟩ := ex_z40 hr
  rw [s_pack_Round _ _ _ _ _ _ _ _ _ hf3 (by rw [u8_u8]; exact hm), fN_u, u8_u8, iNz_b2i, iNz_b2i, i64_i64, z1, z2, nW_small hV, k1, k2, oB_eq]; rfl
 have rnU : Gd → sP = sC → F_pack_Round [u8 f, u8 m, b2i (iNz t), b2i (sP), i64 U.1, wd U.2 0, wd U.2 1, wd U.2 2, wd U.2 3] = [wd (FP.mk (fN f) N C.1) 1, wd (FP.mk (fN f) N C.1) 0, (C.2 : Int)] := fun g h => by
  refine rn U sP g Ul ru (by rw [resT_eq, if_pos h, hU]) ?_
  rw [if_pos h]
  unfold FP.resS
  rw [if_pos h]
  split <;> rfl
 have rnZ : Gd → ¬ sP = sC → D.2 = 0 → F_pack_Round [u8 f, u8 m, b2i (iNz t), b2i (u8 m == 3), i64 D.1, wd D.2 0, wd D.2 1, wd D.2 2, wd D.2 3] = [wd (FP.mk (fN f) N C.1) 1, wd (FP.mk (fN f) N C.1) 0, (C.2 : Int)] := fun g h z => by
  refine rn D _ g Dl rd (by rw [resT_eq, if_neg h, hD]) ?_
  rw [if_pos z, if_neg h, beq_m3]
 have rnD : Gd → ¬ sP = sC → ¬ D.2 = 0 → F_pack_Round [u8 f, u8 m, b2i (iNz t), b2i (!(sP == L)), i64 D.1, wd D.2 0, wd D.2 1, wd D.2 2, wd D.2 3] = [wd (FP.mk (fN f) N C.1) 1, wd (FP.mk (fN f) N C.1) 0, (C.2 : Int)] := fun g h z => by
  refine rn D _ g Dl rd (by rw [resT_eq, if_neg h, hD]) ?_
  rw [if_neg z, resS_eq _ _ _ _ _ _ h, ← hL]
 clear rn hU hD hL
 rw [F_fma_Fma, t_fma_Fma]
 refine tF (by simp only [sxs]; exact known) ?_
 refine tF (by simp only [sxs]; exact knownm) ?_
 refine (treeF_call (r := [b2i sC, ((clsF (fN f) (nB c1 c0) : Nat) : Int), ec, wd (z) 1, wd (z) 0]) (by simp only [sxs, ph_A3_fields_Unpack]; exact unC) (by rfl)).trans ?_
 refine (treeF_call (r := [b2i sA, ((clsF (fN f) (nB a1 a0) : Nat) : Int), ea, wd (x) 1, wd (x) 0]) (by simp only [sxs, ph_A3_fields_Unpack]; exact unA) (by rfl)).trans ?_
 refine (treeF_call (r := [b2i sB, ((clsF (fN f) (nB b1 b0) : Nat) : Int), eb, wd (y) 1, wd (y) 0]) (by simp only [sxs, ph_A3_fields_Unpack]; exact unB) (by rfl)).trans ?_
 refine (treeF_call (r := [ep, wd (P) 0, wd (P) 1, wd (P) 2, wd (P) 3]) (by simp only [sxs, ph_A3_mul_Term, iea, ieb, u8A, u8B]; exact tmE) (by rfl)).trans ?_
 refine tI (clsF (fN f) (nB a1 a0) = 3) (by simp only [sxs, u8A]; exact beq_nk _ 3) (fun h1 => ?_) (fun h1 => ?_)
 ·refine (treeF_call (r := [b2i (badC (clsF (fN f) (nB a1 a0)) (clsF (fN f) (nB b1 b0)))]) (by simp only [sxs, ph_A3_mul_Bad, iea, ieb, u8A, u8B]; exact baE) (by rfl)).trans ?_
  refine tI (¬ badC (clsF (fN f) (nB a1 a0)) (clsF (fN f) (nB b1 b0)) = true) (by simp only [sxs]; exact notdec _) (fun h2 => ?_) (fun h2 => ?_)
  ·refine tI (clsF (fN f) (nB c1 c0) = 3) (by simp only [sxs, u8C]; exact beq_nk _ 3) (fun h3 => ?_) (fun h3 => ?_)
   ·refine tI (¬ sP = sC) (by simp only [sxs]; rw [nsP]; exact nbeq _ _) (fun h4 => ?_) (fun h4 => ?_)
    ·refine (treeF_call (r := [wd (pkB3 (fN f) false (nB a1 a0) (nB b1 b0) (nB c1 c0)) 1, wd (pkB3 (fN f) false (nB a1 a0) (nB b1 b0) (nB c1 c0)) 0, ((pkF3 (fN f) false (nB a1 a0) (nB b1 b0) (nB c1 c0) : Nat) : Int), b2i (pkO3 (fN f) false (nB a1 a0) (nB b1 b0) (nB c1 c0))]) (by simp only [sxs, ph_A3_nan_Pick_3]; exact pk _ _ rfl) (by rfl)).trans ?_
     refine (treeF_call (r := [wd (pkB3 (fN f) (fmaJ (fN f) (nB a1 a0) (nB b1 b0) (nB c1 c0)) (nB a1 a0) (nB b1 b0) (nB c1 c0)) 1, wd (pkB3 (fN f) (fmaJ (fN f) (nB a1 a0) (nB b1 b0) (nB c1 c0)) (nB a1 a0) (nB b1 b0) (nB c1 c0)) 0, ((pkF3 (fN f) (fmaJ (fN f) (nB a1 a0) (nB b1 b0) (nB c1 c0)) (nB a1 a0) (nB b1 b0) (nB c1 c0) : Nat) : Int), b2i (pkO3 (fN f) (fmaJ (fN f) (nB a1 a0) (nB b1 b0) (nB c1 c0)) (nB a1 a0) (nB b1 b0) (nB c1 c0))]) (by simp only [sxs, ph_A3_nan_Pick_3]; exact pk _ _ (j2 h2 (.inl h1) h3 h4)) (by rfl)).trans ?_
     refine tI (pkO3 (fN f) (fmaJ (fN f) (nB a1 a0) (nB b1 b0) (nB c1 c0)) (nB a1 a0) (nB b1 b0) (nB c1 c0) = true) (by simp only [sxs]; exact (Bool.decide_coe _).symm) (fun h5 => ?_) (fun h5 => ?_)
     ·rw [treeF_leaf rfl]
      simp only [sxs]
      rw [rP h5]
      simp only [pkF8]
     ·refine (treeF_call (r := [wd (FP.mk (fN f) sP (FP.inf (fN f))) 1, wd (FP.mk (fN f) sP (FP.inf (fN f))) 0]) (by simp only [sxs, ph_A3_format_Inf]; rw [nsP]; exact infE) (by rfl)).trans ?_
      rw [treeF_leaf rfl]
      simp only [sxs]
      rw [rA h5 (.inl h1)]
      rfl
    ·refine (treeF_call (r := [wd (pkB3 (fN f) (fmaJ (fN f) (nB a1 a0) (nB b1 b0) (nB c1 c0)) (nB a1 a0) (nB b1 b0) (nB c1 c0)) 1, wd (pkB3 (fN f) (fmaJ (fN f) (nB a1 a0) (nB b1 b0) (nB c1 c0)) (nB a1 a0) (nB b1 b0) (nB c1 c0)) 0, ((pkF3 (fN f) (fmaJ (fN f) (nB a1 a0) (nB b1 b0) (nB c1 c0)) (nB a1 a0) (nB b1 b0) (nB c1 c0) : Nat) : Int), b2i (pkO3 (fN f) (fmaJ (fN f) (nB a1 a0) (nB b1 b0) (nB c1 c0)) (nB a1 a0) (nB b1 b0) (nB c1 c0))]) (by simp only [sxs, ph_A3_nan_Pick_3]; exact pk _ _ (j0n h2 (Decidable.not_not.1 h4))) (by rfl)).trans ?_
     refine tI (pkO3 (fN f) (fmaJ (fN f) (nB a1 a0) (nB b1 b0) (nB c1 c0)) (nB a1 a0) (nB b1 b0) (nB c1 c0) = true) (by simp only [sxs]; exact (Bool.decide_coe _).symm) (fun h6 => ?_) (fun h6 => ?_)
     ·rw [treeF_leaf rfl]
      simp only [sxs]
      rw [rP h6]
      simp only [pkF8]
     ·refine (treeF_call (r := [wd (FP.mk (fN f) sP (FP.inf (fN f))) 1, wd (FP.mk (fN f) sP (FP.inf (fN f))) 0]) (by simp only [sxs, ph_A3_format_Inf]; rw [nsP]; exact infE) (by rfl)).trans ?_
      rw [treeF_leaf rfl]
      simp only [sxs]
      rw [rA h6 (.inl h1)]
      rfl
   ·refine (treeF_call (r := [wd (pkB3 (fN f) (fmaJ (fN f) (nB a1 a0) (nB b1 b0) (nB c1 c0)) (nB a1 a0) (nB b1 b0) (nB c1 c0)) 1, wd (pkB3 (fN f) (fmaJ (fN f) (nB a1 a0) (nB b1 b0) (nB c1 c0)) (nB a1 a0) (nB b1 b0) (nB c1 c0)) 0, ((pkF3 (fN f) (fmaJ (fN f) (nB a1 a0) (nB b1 b0) (nB c1 c0)) (nB a1 a0) (nB b1 b0) (nB c1 c0) : Nat) : Int), b2i (pkO3 (fN f) (fmaJ (fN f) (nB a1 a0) (nB b1 b0) (nB c1 c0)) (nB a1 a0) (nB b1 b0) (nB c1 c0))]) (by simp only [sxs, ph_A3_nan_Pick_3]; exact pk _ _ (j0c h2 h3)) (by rfl)).trans ?_
    refine tI (pkO3 (fN f) (fmaJ (fN f) (nB a1 a0) (nB b1 b0) (nB c1 c0)) (nB a1 a0) (nB b1 b0) (nB c1 c0) = true) (by simp only [sxs]; exact (Bool.decide_coe _).symm) (fun h7 => ?_) (fun h7 => ?_)
    ·rw [treeF_leaf rfl]
     simp only [sxs]
     rw [rP h7]
     simp only [pkF8]
    ·refine (treeF_call (r := [wd (FP.mk (fN f) sP (FP.inf (fN f))) 1, wd (FP.mk (fN f) sP (FP.inf (fN f))) 0]) (by simp only [sxs, ph_A3_format_Inf]; rw [nsP]; exact infE) (by rfl)).trans ?_
     rw [treeF_leaf rfl]
     simp only [sxs]
     rw [rA h7 (.inl h1)]
     rfl
  ·refine (treeF_call (r := [wd (pkB3 (fN f) (fmaJ (fN f) (nB a1 a0) (nB b1 b0) (nB c1 c0)) (nB a1 a0) (nB b1 b0) (nB c1 c0)) 1, wd (pkB3 (fN f) (fmaJ (fN f) (nB a1 a0) (nB b1 b0) (nB c1 c0)) (nB a1 a0) (nB b1 b0) (nB c1 c0)) 0, ((pkF3 (fN f) (fmaJ (fN f) (nB a1 a0) (nB b1 b0) (nB c1 c0)) (nB a1 a0) (nB b1 b0) (nB c1 c0) : Nat) : Int), b2i (pkO3 (fN f) (fmaJ (fN f) (nB a1 a0) (nB b1 b0) (nB c1 c0)) (nB a1 a0) (nB b1 b0) (nB c1 c0))]) (by simp only [sxs, ph_A3_nan_Pick_3]; exact pk _ _ (j1 (Decidable.not_not.1 h2))) (by rfl)).trans ?_
   refine tI (pkO3 (fN f) (fmaJ (fN f) (nB a1 a0) (nB b1 b0) (nB c1 c0)) (nB a1 a0) (nB b1 b0) (nB c1 c0) = true) (by simp only [sxs]; exact (Bool.decide_coe _).symm) (fun h8 => ?_) (fun h8 => ?_)
   ·rw [treeF_leaf rfl]
    simp only [sxs]
    rw [rP h8]
    simp only [pkF8]
   ·refine (treeF_call (r := [wd (FP.mk (fN f) sP (FP.inf (fN f))) 1, wd (FP.mk (fN f) sP (FP.inf (fN f))) 0]) (by simp only [sxs, ph_A3_format_Inf]; rw [nsP]; exact infE) (by rfl)).trans ?_
    rw [treeF_leaf rfl]
    simp only [sxs]
    rw [rA h8 (.inl h1)]
    rfl
 ·refine (treeF_call (r := [b2i (badC (clsF (fN f) (nB a1 a0)) (clsF (fN f) (nB b1 b0)))]) (by simp only [sxs, ph_A3_mul_Bad, iea, ieb, u8A, u8B]; exact baE) (by rfl)).trans ?_
  refine tI (clsF (fN f) (nB b1 b0) = 3) (by simp only [sxs, u8B]; exact beq_nk _ 3) (fun h9 => ?_) (fun h9 => ?_)
  ·refine tI (¬ badC (clsF (fN f) (nB a1 a0)) (clsF (fN f) (nB b1 b0)) = true) (by simp only [sxs]; exact notdec _) (fun h10 => ?_) (fun h10 => ?_)
   ·refine tI (clsF (fN f) (nB c1 c0) = 3) (by simp only [sxs, u8C]; exact beq_nk _ 3) (fun h11 => ?_) (fun h11 => ?_)
    ·refine tI (¬ sP = sC) (by simp only [sxs]; rw [nsP]; exact nbeq _ _) (fun h12 => ?_) (fun h12 => ?_)
     ·refine (treeF_call (r := [wd (pkB3 (fN f) false (nB a1 a0) (nB b1 b0) (nB c1 c0)) 1, wd (pkB3 (fN f) false (nB a1 a0) (nB b1 b0) (nB c1 c0)) 0, ((pkF3 (fN f) false (nB a1 a0) (nB b1 b0) (nB c1 c0) : Nat) : Int), b2i (pkO3 (fN f) false (nB a1 a0) (nB b1 b0) (nB c1 c0))]) (by simp only [sxs, ph_A3_nan_Pick_3]; exact pk _ _ rfl) (by rfl)).trans ?_
      refine (treeF_call (r := [wd (pkB3 (fN f) (fmaJ (fN f) (nB a1 a0) (nB b1 b0) (nB c1 c0)) (nB a1 a0) (nB b1 b0) (nB c1 c0)) 1, wd (pkB3 (fN f) (fmaJ (fN f) (nB a1 a0) (nB b1 b0) (nB c1 c0)) (nB a1 a0) (nB b1 b0) (nB c1 c0)) 0, ((pkF3 (fN f) (fmaJ (fN f) (nB a1 a0) (nB b1 b0) (nB c1 c0)) (nB a1 a0) (nB b1 b0) (nB c1 c0) : Nat) : Int), b2i (pkO3 (fN f) (fmaJ (fN f) (nB a1 a0) (nB b1 b0) (nB c1 c0)) (nB a1 a0) (nB b1 b0) (nB c1 c0))]) (by simp only [sxs, ph_A3_nan_Pick_3]; exact pk _ _ (j2 h10 (.inr h9) h11 h12)) (by rfl)).trans ?_
      refine tI (pkO3 (fN f) (fmaJ (fN f) (nB a1 a0) (nB b1 b0) (nB c1 c0)) (nB a1 a0) (nB b1 b0) (nB c1 c0) = true) (by simp only [sxs]; exact (Bool.decide_coe _).symm) (fun h13 => ?_) (fun h13 => ?_)
      ·rw [treeF_leaf rfl]
       simp only [sxs]
       rw [rP h13]
       simp only [pkF8]
      ·refine (treeF_call (r := [wd (FP.mk (fN f) sP (FP.inf (fN f))) 1, wd (FP.mk (fN f) sP (FP.inf (fN f))) 0]) (by simp only [sxs, ph_A3_format_Inf]; rw [nsP]; exact infE) (by rfl)).trans ?_
       rw [treeF_leaf rfl]
       simp only [sxs]
       rw [rA h13 (.inr h9)]
       rfl
     ·refine (treeF_call (r := [wd (pkB3 (fN f) (fmaJ (fN f) (nB a1 a0) (nB b1 b0) (nB c1 c0)) (nB a1 a0) (nB b1 b0) (nB c1 c0)) 1, wd (pkB3 (fN f) (fmaJ (fN f) (nB a1 a0) (nB b1 b0) (nB c1 c0)) (nB a1 a0) (nB b1 b0) (nB c1 c0)) 0, ((pkF3 (fN f) (fmaJ (fN f) (nB a1 a0) (nB b1 b0) (nB c1 c0)) (nB a1 a0) (nB b1 b0) (nB c1 c0) : Nat) : Int), b2i (pkO3 (fN f) (fmaJ (fN f) (nB a1 a0) (nB b1 b0) (nB c1 c0)) (nB a1 a0) (nB b1 b0) (nB c1 c0))]) (by simp only [sxs, ph_A3_nan_Pick_3]; exact pk _ _ (j0n h10 (Decidable.not_not.1 h12))) (by rfl)).trans ?_
      refine tI (pkO3 (fN f) (fmaJ (fN f) (nB a1 a0) (nB b1 b0) (nB c1 c0)) (nB a1 a0) (nB b1 b0) (nB c1 c0) = true) (by simp only [sxs]; exact (Bool.decide_coe _).symm) (fun h14 => ?_) (fun h14 => ?_)
      ·rw [treeF_leaf rfl]
       simp only [sxs]
       rw [rP h14]
       simp only [pkF8]
      ·refine (treeF_call (r := [wd (FP.mk (fN f) sP (FP.inf (fN f))) 1, wd (FP.mk (fN f) sP (FP.inf (fN f))) 0]) (by simp only [sxs, ph_A3_format_Inf]; rw [nsP]; exact infE) (by rfl)).trans ?_
       rw [treeF_leaf rfl]
       simp only [sxs]
       rw [rA h14 (.inr h9)]
       rfl
    ·refine (treeF_call (r := [wd (pkB3 (fN f) (fmaJ (fN f) (nB a1 a0) (nB b1 b0) (nB c1 c0)) (nB a1 a0) (nB b1 b0) (nB c1 c0)) 1, wd (pkB3 (fN f) (fmaJ (fN f) (nB a1 a0) (nB b1 b0) (nB c1 c0)) (nB a1 a0) (nB b1 b0) (nB c1 c0)) 0, ((pkF3 (fN f) (fmaJ (fN f) (nB a1 a0) (nB b1 b0) (nB c1 c0)) (nB a1 a0) (nB b1 b0) (nB c1 c0) : Nat) : Int), b2i (pkO3 (fN f) (fmaJ (fN f) (nB a1 a0) (nB b1 b0) (nB c1 c0)) (nB a1 a0) (nB b1 b0) (nB c1 c0))]) (by simp only [sxs, ph_A3_nan_Pick_3]; exact pk _ _ (j0c h10 h11)) (by rfl)).trans ?_
     refine tI (pkO3 (fN f) (fmaJ (fN f) (nB a1 a0) (nB b1 b0) (nB c1 c0)) (nB a1 a0) (nB b1 b0) (nB c1 c0) = true) (by simp only [sxs]; exact (Bool.decide_coe _).symm) (fun h15 => ?_) (fun h15 => ?_)
     ·rw [treeF_leaf rfl]
      simp only [sxs]
      rw [rP h15]
      simp only [pkF8]
     ·refine (treeF_call (r := [wd (FP.mk (fN f) sP (FP.inf (fN f))) 1, wd (FP.mk (fN f) sP (FP.inf (fN f))) 0]) (by simp only [sxs, ph_A3_format_Inf]; rw [nsP]; exact infE) (by rfl)).trans ?_
      rw [treeF_leaf rfl]
      simp only [sxs]
      rw [rA h15 (.inr h9)]
      rfl
   ·refine (treeF_call (r := [wd (pkB3 (fN f) (fmaJ (fN f) (nB a1 a0) (nB b1 b0) (nB c1 c0)) (nB a1 a0) (nB b1 b0) (nB c1 c0)) 1, wd (pkB3 (fN f) (fmaJ (fN f) (nB a1 a0) (nB b1 b0) (nB c1 c0)) (nB a1 a0) (nB b1 b0) (nB c1 c0)) 0, ((pkF3 (fN f) (fmaJ (fN f) (nB a1 a0) (nB b1 b0) (nB c1 c0)) (nB a1 a0) (nB b1 b0) (nB c1 c0) : Nat) : Int), b2i (pkO3 (fN f) (fmaJ (fN f) (nB a1 a0) (nB b1 b0) (nB c1 c0)) (nB a1 a0) (nB b1 b0) (nB c1 c0))]) (by simp only [sxs, ph_A3_nan_Pick_3]; exact pk _ _ (j1 (Decidable.not_not.1 h10))) (by rfl)).trans ?_
    refine tI (pkO3 (fN f) (fmaJ (fN f) (nB a1 a0) (nB b1 b0) (nB c1 c0)) (nB a1 a0) (nB b1 b0) (nB c1 c0) = true) (by simp only [sxs]; exact (Bool.decide_coe _).symm) (fun h16 => ?_) (fun h16 => ?_)
    ·rw [treeF_leaf rfl]
     simp only [sxs]
     rw [rP h16]
     simp only [pkF8]
    ·refine (treeF_call (r := [wd (FP.mk (fN f) sP (FP.inf (fN f))) 1, wd (FP.mk (fN f) sP (FP.inf (fN f))) 0]) (by simp only [sxs, ph_A3_format_Inf]; rw [nsP]; exact infE) (by rfl)).trans ?_
     rw [treeF_leaf rfl]
     simp only [sxs]
     rw [rA h16 (.inr h9)]
     rfl
  ·refine tI (badC (clsF (fN f) (nB a1 a0)) (clsF (fN f) (nB b1 b0)) = true) (by simp only [sxs]; exact (Bool.decide_coe _).symm) (fun h17 => ?_) (fun h17 => ?_)
   ·refine (treeF_call (r := [wd (pkB3 (fN f) (fmaJ (fN f) (nB a1 a0) (nB b1 b0) (nB c1 c0)) (nB a1 a0) (nB b1 b0) (nB c1 c0)) 1, wd (pkB3 (fN f) (fmaJ (fN f) (nB a1 a0) (nB b1 b0) (nB c1 c0)) (nB a1 a0) (nB b1 b0) (nB c1 c0)) 0, ((pkF3 (fN f) (fmaJ (fN f) (nB a1 a0) (nB b1 b0) (nB c1 c0)) (nB a1 a0) (nB b1 b0) (nB c1 c0) : Nat) : Int), b2i (pkO3 (fN f) (fmaJ (fN f) (nB a1 a0) (nB b1 b0) (nB c1 c0)) (nB a1 a0) (nB b1 b0) (nB c1 c0))]) (by simp only [sxs, ph_A3_nan_Pick_3]; exact pk _ _ (j1 h17)) (by rfl)).trans ?_
    refine tI (pkO3 (fN f) (fmaJ (fN f) (nB a1 a0) (nB b1 b0) (nB c1 c0)) (nB a1 a0) (nB b1 b0) (nB c1 c0) = true) (by simp only [sxs]; exact (Bool.decide_coe _).symm) (fun h18 => ?_) (fun h18 => ?_)
    ·rw [treeF_leaf rfl]
     simp only [sxs]
     rw [rP h18]
     simp only [pkF8]
    ·refine tI (clsF (fN f) (nB c1 c0) = 3) (by simp only [sxs, u8C]; exact beq_nk _ 3) (fun h19 => ?_) (fun h19 => ?_)
     ·refine (treeF_call (r := [wd (FP.mk (fN f) sC (FP.inf (fN f))) 1, wd (FP.mk (fN f) sC (FP.inf (fN f))) 0]) (by simp only [sxs, ph_A3_format_Inf]; exact infE) (by rfl)).trans ?_
      rw [treeF_leaf rfl]
      simp only [sxs]
      rw [rC h18 (nab h1 h9) h19]
      rfl
     ·refine (treeF_call (r := [wd (Z) 0, wd (Z) 1, wd (Z) 2, wd (Z) 3]) (by simp only [sxs, ph_A3_wide_Join]; exact joZ) (by rfl)).trans ?_
      refine (treeF_call (r := [U.1, wd (U.2) 0, wd (U.2) 1, wd (U.2) 2, wd (U.2) 3]) (by simp only [sxs, ph_A3_mag_Sum, iep, iec]; exact suE) (by rfl)).trans ?_
      refine tI (¬ sP = sC) (by simp only [sxs]; rw [nsP]; exact nbeq _ _) (fun h20 => ?_) (fun h20 => ?_)
      ·refine (treeF_call (r := [wd (Z) 0, wd (Z) 1, wd (Z) 2, wd (Z) 3]) (by simp only [sxs, ph_A3_wide_Join]; exact joZ) (by rfl)).trans ?_
       refine (treeF_call (r := [D.1, wd (D.2) 0, wd (D.2) 1, wd (D.2) 2, wd (D.2) 3, b2i L]) (by simp only [sxs, ph_A3_mag_Diff, iep, iec]; exact diE) (by rfl)).trans ?_
       refine (treeF_call (r := [b2i (decide (D.2 = 0))]) (by simp only [sxs, ph_A3_wide_Zero]; exact k_wideZero Dl) (by rfl)).trans ?_
       refine tI (D.2 = 0) (by simp only [sxs]; try rfl) (fun h21 => ?_) (fun h21 => ?_)
       ·refine (treeF_call (r := [wd (FP.mk (fN f) N C.1) 1, wd (FP.mk (fN f) N C.1) 0, (C.2 : Int)]) (by simp only [sxs, ph_A3_pack_Round, nsP]; exact rnZ (fin h18 (nab h1 h9) h19) h20 h21) (by rfl)).trans ?_
        rw [treeF_leaf rfl]
        simp only [sxs]
        rw [rF (fin h18 (nab h1 h9) h19) h18, C8]
       ·refine (treeF_call (r := [wd (FP.mk (fN f) N C.1) 1, wd (FP.mk (fN f) N C.1) 0, (C.2 : Int)]) (by simp only [sxs, ph_A3_pack_Round, nsP]; exact rnD (fin h18 (nab h1 h9) h19) h20 h21) (by rfl)).trans ?_
        rw [treeF_leaf rfl]
        simp only [sxs]
        rw [rF (fin h18 (nab h1 h9) h19) h18, C8]
      ·refine (treeF_call (r := [b2i (decide (U.2 = 0))]) (by simp only [sxs, ph_A3_wide_Zero]; exact k_wideZero Ul) (by rfl)).trans ?_
       refine tI (U.2 = 0) (by simp only [sxs]; try rfl) (fun h22 => ?_) (fun h22 => ?_)
       ·refine (treeF_call (r := [wd (FP.mk (fN f) N C.1) 1, wd (FP.mk (fN f) N C.1) 0, (C.2 : Int)]) (by simp only [sxs, ph_A3_pack_Round, nsP]; exact rnU (fin h18 (nab h1 h9) h19) (Decidable.not_not.1 h20)) (by rfl)).trans ?_
        rw [treeF_leaf rfl]
        simp only [sxs]
        rw [rF (fin h18 (nab h1 h9) h19) h18, C8]
       ·refine (treeF_call (r := [wd (FP.mk (fN f) N C.1) 1, wd (FP.mk (fN f) N C.1) 0, (C.2 : Int)]) (by simp only [sxs, ph_A3_pack_Round, nsP]; exact rnU (fin h18 (nab h1 h9) h19) (Decidable.not_not.1 h20)) (by rfl)).trans ?_
        rw [treeF_leaf rfl]
        simp only [sxs]
        rw [rF (fin h18 (nab h1 h9) h19) h18, C8]
   ·refine (treeF_call (r := [wd (pkB3 (fN f) (fmaJ (fN f) (nB a1 a0) (nB b1 b0) (nB c1 c0)) (nB a1 a0) (nB b1 b0) (nB c1 c0)) 1, wd (pkB3 (fN f) (fmaJ (fN f) (nB a1 a0) (nB b1 b0) (nB c1 c0)) (nB a1 a0) (nB b1 b0) (nB c1 c0)) 0, ((pkF3 (fN f) (fmaJ (fN f) (nB a1 a0) (nB b1 b0) (nB c1 c0)) (nB a1 a0) (nB b1 b0) (nB c1 c0) : Nat) : Int), b2i (pkO3 (fN f) (fmaJ (fN f) (nB a1 a0) (nB b1 b0) (nB c1 c0)) (nB a1 a0) (nB b1 b0) (nB c1 c0))]) (by simp only [sxs, ph_A3_nan_Pick_3]; exact pk _ _ (j0a h17 h1 h9)) (by rfl)).trans ?_
    refine tI (pkO3 (fN f) (fmaJ (fN f) (nB a1 a0) (nB b1 b0) (nB c1 c0)) (nB a1 a0) (nB b1 b0) (nB c1 c0) = true) (by simp only [sxs]; exact (Bool.decide_coe _).symm) (fun h23 => ?_) (fun h23 => ?_)
    ·rw [treeF_leaf rfl]
     simp only [sxs]
     rw [rP h23]
     simp only [pkF8]
    ·refine tI (clsF (fN f) (nB c1 c0) = 3) (by simp only [sxs, u8C]; exact beq_nk _ 3) (fun h24 => ?_) (fun h24 => ?_)
     ·refine (treeF_call (r := [wd (FP.mk (fN f) sC (FP.inf (fN f))) 1, wd (FP.mk (fN f) sC (FP.inf (fN f))) 0]) (by simp only [sxs, ph_A3_format_Inf]; exact infE) (by rfl)).trans ?_
      rw [treeF_leaf rfl]
      simp only [sxs]
      rw [rC h23 (nab h1 h9) h24]
      rfl
     ·refine (treeF_call (r := [wd (Z) 0, wd (Z) 1, wd (Z) 2, wd (Z) 3]) (by simp only [sxs, ph_A3_wide_Join]; exact joZ) (by rfl)).trans ?_
      refine (treeF_call (r := [U.1, wd (U.2) 0, wd (U.2) 1, wd (U.2) 2, wd (U.2) 3]) (by simp only [sxs, ph_A3_mag_Sum, iep, iec]; exact suE) (by rfl)).trans ?_
      refine tI (¬ sP = sC) (by simp only [sxs]; rw [nsP]; exact nbeq _ _) (fun h25 => ?_) (fun h25 => ?_)
      ·refine (treeF_call (r := [wd (Z) 0, wd (Z) 1, wd (Z) 2, wd (Z) 3]) (by simp only [sxs, ph_A3_wide_Join]; exact joZ) (by rfl)).trans ?_
       refine (treeF_call (r := [D.1, wd (D.2) 0, wd (D.2) 1, wd (D.2) 2, wd (D.2) 3, b2i L]) (by simp only [sxs, ph_A3_mag_Diff, iep, iec]; exact diE) (by rfl)).trans ?_
       refine (treeF_call (r := [b2i (decide (D.2 = 0))]) (by simp only [sxs, ph_A3_wide_Zero]; exact k_wideZero Dl) (by rfl)).trans ?_
       refine tI (D.2 = 0) (by simp only [sxs]; try rfl) (fun h26 => ?_) (fun h26 => ?_)
       ·refine (treeF_call (r := [wd (FP.mk (fN f) N C.1) 1, wd (FP.mk (fN f) N C.1) 0, (C.2 : Int)]) (by simp only [sxs, ph_A3_pack_Round, nsP]; exact rnZ (fin h23 (nab h1 h9) h24) h25 h26) (by rfl)).trans ?_
        rw [treeF_leaf rfl]
        simp only [sxs]
        rw [rF (fin h23 (nab h1 h9) h24) h23, C8]
       ·refine (treeF_call (r := [wd (FP.mk (fN f) N C.1) 1, wd (FP.mk (fN f) N C.1) 0, (C.2 : Int)]) (by simp only [sxs, ph_A3_pack_Round, nsP]; exact rnD (fin h23 (nab h1 h9) h24) h25 h26) (by rfl)).trans ?_
        rw [treeF_leaf rfl]
        simp only [sxs]
        rw [rF (fin h23 (nab h1 h9) h24) h23, C8]
      ·refine (treeF_call (r := [b2i (decide (U.2 = 0))]) (by simp only [sxs, ph_A3_wide_Zero]; exact k_wideZero Ul) (by rfl)).trans ?_
       refine tI (U.2 = 0) (by simp only [sxs]; try rfl) (fun h27 => ?_) (fun h27 => ?_)
       ·refine (treeF_call (r := [wd (FP.mk (fN f) N C.1) 1, wd (FP.mk (fN f) N C.1) 0, (C.2 : Int)]) (by simp only [sxs, ph_A3_pack_Round, nsP]; exact rnU (fin h23 (nab h1 h9) h24) (Decidable.not_not.1 h25)) (by rfl)).trans ?_
        rw [treeF_leaf rfl]
        simp only [sxs]
        rw [rF (fin h23 (nab h1 h9) h24) h23, C8]
       ·refine (treeF_call (r := [wd (FP.mk (fN f) N C.1) 1, wd (FP.mk (fN f) N C.1) 0, (C.2 : Int)]) (by simp only [sxs, ph_A3_pack_Round, nsP]; exact rnU (fin h23 (nab h1 h9) h24) (Decidable.not_not.1 h25)) (by rfl)).trans ?_
        rw [treeF_leaf rfl]
        simp only [sxs]
        rw [rF (fin h23 (nab h1 h9) h24) h23, C8]
end Go.Proofs.YtngiodcdelfdmaaGreatDoor
