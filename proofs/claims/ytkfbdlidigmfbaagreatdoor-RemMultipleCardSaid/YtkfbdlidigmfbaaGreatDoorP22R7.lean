import Derived.Test.YtkfbdlidigmfbaaGreatDoorP21R7
import Derived.Test.YtkfbdlidigmfbaaGreatDoorR1R7
namespace Go.Proofs.YtkfbdlidigmfbaaGreatDoor
set_option linter.unusedVariables false
set_option linter.unusedSimpArgs false
set_option maxRecDepth 100000
open Go.RowKit
theorem beq_ii (x y : Int) : (x == y) = decide (x = y) := by rw [Bool.eq_iff_iff, beq_iff_eq, decide_eq_true_iff]
set_option maxHeartbeats 1500000 in
theorem s_rem_Rem (f a1 a0 b1 b0 : Int) (hf : fN f < 4) : F_rem_Rem [f, a1, a0, b1, b0] = oR (remR (fN f) (nB a1 a0) (nB b1 b0)) := by
 have hf3 : fN (u8 f) < 4 := by rw [fN_u]; exact hf
 have known := known_f hf
 have sg : ∀ x, sgnF (fN f) x = FP.sgn (fN f) x := fun x => by unfold sgnF; rw [decide_eq_true hf, Bool.true_and]
 obtain ⟨x, hx⟩ : ∃ x, x = unS (fN f) (nB a1 a0) := ⟨_, rfl⟩
 obtain ⟨y, hy⟩ : ∃ y, y = unS (fN f) (nB b1 b0) := ⟨_, rfl⟩
 obtain ⟨ea, hea⟩ : ∃ e, e = unE (fN f) (nB a1 a0) := ⟨_, rfl⟩
 obtain ⟨eb, heb⟩ : ∃ e, e = unE (fN f) (nB b1 b0) := ⟨_, rfl⟩
 have ra := unE_rng (f := fN f) (b := nB a1 a0)
 have rb := unE_rng (f := fN f) (b := nB b1 b0)
 rw [← hea] at ra
 rw [← heb] at rb
 have xl : x < W128 := by rw [hx]; exact un_lt _ _
 have yl : y < W128 := by rw [hy]; exact un_lt _ _
 have iea : i64 ea = ea := i64_id (by omega) (by omega)
 have ieb : i64 eb = eb := i64_id (by omega) (by omega)
 have ies : i64 (ea - eb) = ea - eb := i64_id (by omega) (by omega)
 have ie1 : i64 (eb - 1) = eb - 1 := i64_id (by omega) (by omega)
 have iem : i64 (min ea eb + 128) = min ea eb + 128 := i64_id (by omega) (by omega)
 have unA : F_fields_Unpack [u8 f, u64 a1, u64 a0] = [b2i (FP.sgn (fN f) (nB a1 a0)), ((clsF (fN f) (nB a1 a0) : Nat) : Int), ea, wd x 1, wd x 0] := by
  rw [s_fields_Unpack, fN_u, nB_u, sg, oB_eq, hx, hea]; rfl
 have unB : F_fields_Unpack [u8 f, u64 b1, u64 b0] = [b2i (FP.sgn (fN f) (nB b1 b0)), ((clsF (fN f) (nB b1 b0) : Nat) : Int), eb, wd y 1, wd y 0] := by
  rw [s_fields_Unpack, fN_u, nB_u, sg, oB_eq, hy, heb]; rfl
 have naA : F_class_NaN [u8 f, u64 a1, u64 a0] = [b2i (decide (4 ≤ clsF (fN f) (nB a1 a0)))] := by rw [s_class_NaN, fN_u, nB_u]
 have naB : F_class_NaN [u8 f, u64 b1, u64 b0] = [b2i (decide (4 ≤ clsF (fN f) (nB b1 b0)))] := by rw [s_class_NaN, fN_u, nB_u]
 have u8A := clsF_u8 (fN f) (nB a1 a0)
 have u8B := clsF_u8 (fN f) (nB b1 b0)
 have pk : ∀ (j : Int) (q : Bool), iNz j = q → F_nan_Pick_2 [u8 f, j, u64 a1, u64 a0, u64 b1, u64 b0] = [wd (pkB2 (fN f) q (nB a1 a0) (nB b1 b0)) 1, wd (pkB2 (fN f) q (nB a1 a0) (nB b1 b0)) 0, ((pkF2 (fN f) q (nB a1 a0) (nB b1 b0) : Nat) : Int), b2i (pkO2 (fN f) q (nB a1 a0) (nB b1 b0))] := fun j q hj => by
  rw [s_nan_Pick_2' _ _ _ _ _ _ hf3, fN_u, nB_u, nB_u, hj]
 have pk1 : ∀ {q : Bool}, 4 ≤ clsF (fN f) (nB a1 a0) → pkO2 (fN f) q (nB a1 a0) (nB b1 b0) = true := fun h => by unfold pkO2; rw [decide_eq_true h]; rfl
 have pk2 : ∀ {q : Bool}, 4 ≤ clsF (fN f) (nB b1 b0) → pkO2 (fN f) q (nB a1 a0) (nB b1 b0) = true := fun h => by unfold pkO2; rw [decide_eq_true h, Bool.true_or, Bool.or_true]
 have pk3 : pkO2 (fN f) true (nB a1 a0) (nB b1 b0) = true := by unfold pkO2; rw [Bool.or_true, Bool.or_true]
 have cuE : F_format_Cut [u8 f, u64 a1, u64 a0] = [wd (FP.mk (fN f) (FP.sgn (fN f) (nB a1 a0)) (FP.cod (fN f) (nB a1 a0))) 1, wd (FP.mk (fN f) (FP.sgn (fN f) (nB a1 a0)) (FP.cod (fN f) (nB a1 a0))) 0] := by
  rw [s_format_Cut, fN_u, nB_u, ← FP.mk_cut hf, oB_eq]
 rw [oR_eq']
 obtain ⟨C, hC⟩ : ∃ C, C = FP.remC (fN f) (FP.cod (fN f) (nB a1 a0)) (FP.cod (fN f) (nB b1 b0)) := ⟨_, rfl⟩
 generalize hR : remR (fN f) (nB a1 a0) (nB b1 b0) = R
 have rP : ∀ q : Bool, (4 ≤ clsF (fN f) (nB a1 a0) ∧ q = false) ∨ (¬ 4 ≤ clsF (fN f) (nB a1 a0) ∧ 4 ≤ clsF (fN f) (nB b1 b0) ∧ q = false) ∨ (¬ 4 ≤ clsF (fN f) (nB a1 a0) ∧ ¬ 4 ≤ clsF (fN f) (nB b1 b0) ∧ (q = true ↔ badR (clsF (fN f) (nB a1 a0)) (clsF (fN f) (nB b1 b0)) = true) ∧ q = true) → R = (pkB2 (fN f) q (nB a1 a0) (nB b1 b0), pkF2 (fN f) q (nB a1 a0) (nB b1 b0)) := fun q h => by
  rw [← hR]
  unfold remR pkB2 pkF2 nanFlag
  rcases h with ⟨h1, h2⟩ | ⟨h1, h2, h3⟩ | ⟨h1, h2, h3, h4⟩
  ·simp only [h1, h2, if_true, true_or, false_or, Bool.false_eq_true]
  ·simp only [h1, h2, h3, if_true, if_false, or_true, false_or, Bool.false_eq_true]
  ·have h5 := h3.1 h4
   simp only [h1, h2, h4, h5, if_true, if_false, or_self]
 have bd : ∀ {q : Bool}, q = true ↔ q = true := Iff.rfl
 have rS : ¬ 4 ≤ clsF (fN f) (nB a1 a0) → ¬ 4 ≤ clsF (fN f) (nB b1 b0) → ¬ badR (clsF (fN f) (nB a1 a0)) (clsF (fN f) (nB b1 b0)) = true → (clsF (fN f) (nB a1 a0) = 0 ∨ clsF (fN f) (nB b1 b0) = 3) → R = (FP.mk (fN f) (FP.sgn (fN f) (nB a1 a0)) (FP.cod (fN f) (nB a1 a0)), 0) := fun h1 h2 h3 h4 => by
  rw [← hR]; unfold remR; rw [if_neg h1, if_neg h2, if_neg h3, if_pos h4]
 have not_ok : ¬ pkO2 (fN f) (decide (clsF (fN f) (nB b1 b0) = 0)) (nB a1 a0) (nB b1 b0) = true → ¬ 4 ≤ clsF (fN f) (nB a1 a0) ∧ ¬ 4 ≤ clsF (fN f) (nB b1 b0) ∧ ¬ clsF (fN f) (nB b1 b0) = 0 := fun h => by
  unfold pkO2 at h
  simp only [Bool.or_eq_true, decide_eq_true_iff, not_or] at h
  exact h
 have rP2 : ¬ 4 ≤ clsF (fN f) (nB a1 a0) → ¬ 4 ≤ clsF (fN f) (nB b1 b0) → ¬ clsF (fN f) (nB a1 a0) = 3 → pkO2 (fN f) (decide (clsF (fN f) (nB b1 b0) = 0)) (nB a1 a0) (nB b1 b0) = true → R = (pkB2 (fN f) (decide (clsF (fN f) (nB b1 b0) = 0)) (nB a1 a0) (nB b1 b0), pkF2 (fN f) (decide (clsF (fN f) (nB b1 b0) = 0)) (nB a1 a0) (nB b1 b0)) := fun h1 h2 h3 h4 => by
  have h5 : clsF (fN f) (nB b1 b0) = 0 := by
   unfold pkO2 at h4
   simpa only [Bool.or_eq_true, decide_eq_true_iff, h1, h2, false_or] using h4
  exact rP _ (.inr (.inr ⟨h1, h2, by rw [badR_eq, decide_eq_true_iff]; omega, decide_eq_true h5⟩))
 have rO : ¬ pkO2 (fN f) (decide (clsF (fN f) (nB b1 b0) = 0)) (nB a1 a0) (nB b1 b0) = true → ¬ clsF (fN f) (nB a1 a0) = 3 → (clsF (fN f) (nB a1 a0) = 0 ∨ clsF (fN f) (nB b1 b0) = 3) → R = (FP.mk (fN f) (FP.sgn (fN f) (nB a1 a0)) (FP.cod (fN f) (nB a1 a0)), 0) := fun h h1 h2 => by
  obtain ⟨k1, k2, k3⟩ := not_ok h
  exact rS k1 k2 (by rw [badR_eq]; omega) h2
 have pkF8 : ∀ q : Bool, u8 ((pkF2 (fN f) q (nB a1 a0) (nB b1 b0) : Nat) : Int) = ((pkF2 (fN f) q (nB a1 a0) (nB b1 b0) : Nat) : Int) := fun q => by
  have := pkF2_le (fN f) q (nB a1 a0) (nB b1 b0)
  exact u8_id (by omega) (by omega)
 have fin : ¬ pkO2 (fN f) (decide (clsF (fN f) (nB b1 b0) = 0)) (nB a1 a0) (nB b1 b0) = true → ¬ clsF (fN f) (nB a1 a0) = 3 → ¬ clsF (fN f) (nB a1 a0) = 0 → ¬ clsF (fN f) (nB b1 b0) = 3 →
   (clsF (fN f) (nB a1 a0) = 1 ∨ clsF (fN f) (nB a1 a0) = 2) ∧ (clsF (fN f) (nB b1 b0) = 1 ∨ clsF (fN f) (nB b1 b0) = 2) := fun h h1 h2 h3 => by
  obtain ⟨k1, k2, k3⟩ := not_ok h; omega
 obtain ⟨Gd, hGd⟩ : ∃ Gd : Prop, Gd = ((clsF (fN f) (nB a1 a0) = 1 ∨ clsF (fN f) (nB a1 a0) = 2) ∧ (clsF (fN f) (nB b1 b0) = 1 ∨ clsF (fN f) (nB b1 b0) = 2)) := ⟨_, rfl⟩
 rw [← hGd] at fin
 have big : Gd → 2 ^ 127 ≤ x ∧ 2 ^ 127 ≤ y := fun g => by rw [hGd] at g; rw [hx, hy]; exact ⟨(unS_big hf g.1).1, (unS_big hf g.2).1⟩
 have xy : Gd → x < 2 * y ∧ 0 < y := fun g => bnd_xy xl (big g).2
 have rE : Gd → ea < eb - 1 → R = (FP.mk (fN f) (FP.sgn (fN f) (nB a1 a0)) (FP.cod (fN f) (nB a1 a0)), 0) := fun g h => by
  rw [hGd] at g
  rw [← hR]
  exact remR_early hf g.1 g.2 (by rw [← hea, ← heb]; exact h)
 have sub128 : ∀ {p q : Nat}, p < W128 → p - q < W128 := fun h => Nat.lt_of_le_of_lt (Nat.sub_le _ _) h
 have sub256 : ∀ {p q : Nat}, p < W128 → p - q < W256 := fun h => bnd_sub h
 have w2lt : 2 * y - x < W256 := bnd_two yl
 have yy256 : y + y < W256 := bnd_add yl
 have wsE : Gd → fWideSub [wd (y + y) 0, wd (y + y) 1, wd (y + y) 2, wd (y + y) 3, wd x 0, wd x 1, wd x 2, wd x 3] = [wd (2 * y - x) 0, wd (2 * y - x) 1, wd (2 * y - x) 2, wd (2 * y - x) 3, 0] := fun g => by
  have := (xy g).1
  rw [show 2 * y - x = y + y - x by omega]; exact k_wideSub yy256 (by omega)
 have r0L : Gd → y ≤ x → x - y < y := fun g h => by have := (xy g).1; omega
 have r0S : Gd → x < y → x < y := fun g h => h
 have mdL1 : Gd → y ≤ x → 0 < ea - eb → mdN x (ea - eb).toNat y = ((mdN (x - y) (ea - eb).toNat y).1, (mdN (x - y) (ea - eb).toNat y).2) := fun g h h2 => by
  obtain ⟨q, hq⟩ : ∃ q, (ea - eb).toNat = q + 1 := ⟨(ea - eb).toNat - 1, by omega⟩
  rw [hq]; exact ((rem_rest (n := q) (xy g).2 (xy g).1).1 h).1.symm
 have mdL0 : Gd → y ≤ x → ea = eb → mdN x (ea - eb).toNat y = (x - y, true) := fun g h h2 => by
  rw [show (ea - eb).toNat = 0 by omega]; exact ((rem_rest (n := 0) (xy g).2 (xy g).1).1 h).2
 have mdS1 : Gd → x < y → 0 < ea - eb → mdN x (ea - eb).toNat y = ((mdN x (ea - eb).toNat y).1, (mdN x (ea - eb).toNat y).2) := fun _ _ _ => rfl
 have mdS0 : Gd → x < y → ea = eb → mdN x (ea - eb).toNat y = (x, false) := fun g h h2 => by
  rw [show (ea - eb).toNat = 0 by omega]; exact mdN_zero h
 have mlt : ∀ {m : Nat} {o : Bool}, Gd → mdN x (ea - eb).toNat y = (m, o) → m < y := fun g h => by
  have h1 := mdN_lt (r := x) (n := (ea - eb).toNat) (xy g).2
  rw [h] at h1; exact h1
 obtain ⟨FS, hFS⟩ : ∃ FS : Nat → Bool → Prop, FS = fun S T => R = (FP.mk (fN f) (FP.sgn (fN f) (nB a1 a0) != (T && !decide (S = 0))) C, 0) ∧ ∀ N E : Int, iNz N = (FP.sgn (fN f) (nB a1 a0) != (T && !decide (S = 0))) → i64 E = min ea eb + 128 →
   F_pack_Round [u8 f, 4, 0, N, E, wd S 0, wd S 1, wd S 2, wd S 3] = [wd (FP.mk (fN f) (FP.sgn (fN f) (nB a1 a0) != (T && !decide (S = 0))) C) 1, wd (FP.mk (fN f) (FP.sgn (fN f) (nB a1 a0) != (T && !decide (S = 0))) C) 0, 0] := ⟨_, rfl⟩
 have mkFS : ∀ {S : Nat} {T : Bool}, Gd → S < W256 → S * 2 ^ (min ea eb + 40000).toNat = FP.remV (unS (fN f) (nB a1 a0) * 2 ^ (unE (fN f) (nB a1 a0) + 40000).toNat) (unS (fN f) (nB b1 b0) * 2 ^ (unE (fN f) (nB b1 b0) + 40000).toNat) →
   FP.remT (unS (fN f) (nB a1 a0) * 2 ^ (unE (fN f) (nB a1 a0) + 40000).toNat) (unS (fN f) (nB b1 b0) * 2 ^ (unE (fN f) (nB b1 b0) + 40000).toNat) = T → FS S T := fun {S T} g hS hV hT => by
  rw [hGd] at g
  obtain ⟨h1, h2⟩ := remR_fin hf g.1 g.2 (by rw [hea, heb]) hV hT
  rw [hFS]
  refine ⟨by rw [← hR, hC]; exact h1, fun N E hN hE => ?_⟩
  rw [s_pack_Round _ _ _ _ _ _ _ _ _ hf3 (by decide), fN_u, hN, hE, clip_id (by omega) (by omega), nW_small hS, show (u8 4).toNat = 4 from rfl, h2, ← hC, oB_eq]; rfl
 have fs2t : Gd → ea = eb - 1 → y < x → FS (2 * y - x) true := fun g h h2 => by
  obtain ⟨q1, q2⟩ := remR_two hx hy (by rw [← hea, ← heb]; exact h) (xy g).1
  rw [if_pos h2] at q1
  rw [decide_eq_true h2] at q2
  exact mkFS g w2lt (by rw [show min ea eb = unE (fN f) (nB a1 a0) by rw [← hea]; omega]; exact q1) q2
 have fs2f : Gd → ea = eb - 1 → ¬ y < x → FS x false := fun g h h2 => by
  obtain ⟨q1, q2⟩ := remR_two hx hy (by rw [← hea, ← heb]; exact h) (xy g).1
  rw [if_neg h2] at q1
  rw [decide_eq_false h2] at q2
  exact mkFS g (bnd_wide xl) (by rw [show min ea eb = unE (fN f) (nB a1 a0) by rw [← hea]; omega]; exact q1) q2
 have fs3t : ∀ {m : Nat} {o : Bool}, Gd → eb ≤ ea → mdN x (ea - eb).toNat y = (m, o) → (y - m < m ∨ (m = y - m ∧ o = true)) → FS (y - m) true := fun {m o} g h e h2 => by
  have e' : mdN x (unE (fN f) (nB a1 a0) - unE (fN f) (nB b1 b0)).toNat y = (m, o) := by rw [← hea, ← heb]; exact e
  obtain ⟨q1, q2⟩ := remR_three hx hy (by rw [← hea, ← heb]; exact h) (xy g).2 e'
  have hT : (decide (y - m < m) || (decide (m = y - m) && o)) = true := by simp only [Bool.or_eq_true, Bool.and_eq_true, decide_eq_true_iff]; exact h2
  rw [hT] at q1 q2
  exact mkFS g (sub256 yl) (by rw [show min ea eb = unE (fN f) (nB b1 b0) by rw [← heb]; omega]; exact q1) q2
 have fs3f : ∀ {m : Nat} {o : Bool}, Gd → eb ≤ ea → mdN x (ea - eb).toNat y = (m, o) → ¬ y - m < m → ¬ (m = y - m ∧ o = true) → FS m false := fun {m o} g h e h2 h3 => by
  have e' : mdN x (unE (fN f) (nB a1 a0) - unE (fN f) (nB b1 b0)).toNat y = (m, o) := by rw [← hea, ← heb]; exact e
  obtain ⟨q1, q2⟩ := remR_three hx hy (by rw [← hea, ← heb]; exact h) (xy g).2 e'
  have hT : (decide (y - m < m) || (decide (m = y - m) && o)) = false := by
   rw [Bool.eq_false_iff]; intro h4; simp only [Bool.or_eq_true, Bool.and_eq_true, decide_eq_true_iff] at h4; exact h4.elim h2 h3
  rw [hT] at q1 q2
  exact mkFS g (bnd_wide (Nat.lt_trans (mlt g e) yl)) (by rw [show min ea eb = unE (fN f) (nB b1 b0) by rw [← heb]; omega]; exact q1) q2
 rw [hFS] at fs2t fs2f fs3t fs3f
 clear mkFS hFS
 rw [F_rem_Rem, t_rem_Rem]
 refine tF (by simp only [sxs]; exact known) ?_
 refine (treeF_call (r := [b2i (FP.sgn (fN f) (nB a1 a0)), ((clsF (fN f) (nB a1 a0) : Nat) : Int), ea, wd (x) 1, wd (x) 0]) (by simp only [sxs, ph_R1_fields_Unpack]; exact unA) (by rfl)).trans ?_
 refine (treeF_call (r := [b2i (FP.sgn (fN f) (nB b1 b0)), ((clsF (fN f) (nB b1 b0) : Nat) : Int), eb, wd (y) 1, wd (y) 0]) (by simp only [sxs, ph_R1_fields_Unpack]; exact unB) (by rfl)).trans ?_
 refine (treeF_call (r := [b2i (decide (4 ≤ clsF (fN f) (nB a1 a0)))]) (by simp only [sxs, ph_R1_class_NaN]; exact naA) (by rfl)).trans ?_
 refine tI (4 ≤ clsF (fN f) (nB a1 a0)) (by simp only [sxs]; try rfl) (fun h1 => ?_) (fun h1 => ?_)
 ·refine (treeF_call (r := [wd (pkB2 (fN f) false (nB a1 a0) (nB b1 b0)) 1, wd (pkB2 (fN f) false (nB a1 a0) (nB b1 b0)) 0, ((pkF2 (fN f) false (nB a1 a0) (nB b1 b0) : Nat) : Int), b2i (pkO2 (fN f) false (nB a1 a0) (nB b1 b0))]) (by simp only [sxs, ph_R1_nan_Pick_2, u8B]; exact pk _ _ (by first | rfl | (simp only [iNz_b2i, beq_nk0]))) (by rfl)).trans ?_
  refine tT (by simp only [sxs]; exact pk1 h1) ?_
  rw [treeF_leaf rfl]
  simp only [sxs]
  rw [rP _ (.inl ⟨h1, rfl⟩)]
  simp only [pkF8]
 ·refine (treeF_call (r := [b2i (decide (4 ≤ clsF (fN f) (nB b1 b0)))]) (by simp only [sxs, ph_R1_class_NaN]; exact naB) (by rfl)).trans ?_
  refine tI (4 ≤ clsF (fN f) (nB b1 b0)) (by simp only [sxs]; try rfl) (fun h2 => ?_) (fun h2 => ?_)
  ·refine (treeF_call (r := [wd (pkB2 (fN f) false (nB a1 a0) (nB b1 b0)) 1, wd (pkB2 (fN f) false (nB a1 a0) (nB b1 b0)) 0, ((pkF2 (fN f) false (nB a1 a0) (nB b1 b0) : Nat) : Int), b2i (pkO2 (fN f) false (nB a1 a0) (nB b1 b0))]) (by simp only [sxs, ph_R1_nan_Pick_2, u8B]; exact pk _ _ (by first | rfl | (simp only [iNz_b2i, beq_nk0]))) (by rfl)).trans ?_
   refine tT (by simp only [sxs]; exact pk2 h2) ?_
   rw [treeF_leaf rfl]
   simp only [sxs]
   rw [rP _ (.inr (.inl ⟨h1, h2, rfl⟩))]
   simp only [pkF8]
  ·refine tI (clsF (fN f) (nB a1 a0) = 3) (by simp only [sxs, u8A]; exact beq_nk _ 3) (fun h3 => ?_) (fun h3 => ?_)
   ·refine (treeF_call (r := [wd (pkB2 (fN f) true (nB a1 a0) (nB b1 b0)) 1, wd (pkB2 (fN f) true (nB a1 a0) (nB b1 b0)) 0, ((pkF2 (fN f) true (nB a1 a0) (nB b1 b0) : Nat) : Int), b2i (pkO2 (fN f) true (nB a1 a0) (nB b1 b0))]) (by simp only [sxs, ph_R1_nan_Pick_2, u8B]; exact pk _ _ (by first | rfl | (simp only [iNz_b2i, beq_nk0]))) (by rfl)).trans ?_
    refine tT (by simp only [sxs]; exact pk3) ?_
    rw [treeF_leaf rfl]
    simp only [sxs]
    rw [rP _ (.inr (.inr ⟨h1, h2, ⟨fun _ => (badR_eq _ _).2 (.inl h3), fun _ => rfl⟩, rfl⟩))]
    simp only [pkF8]
   ·refine (treeF_call (r := [wd (pkB2 (fN f) (decide (clsF (fN f) (nB b1 b0) = 0)) (nB a1 a0) (nB b1 b0)) 1, wd (pkB2 (fN f) (decide (clsF (fN f) (nB b1 b0) = 0)) (nB a1 a0) (nB b1 b0)) 0, ((pkF2 (fN f) (decide (clsF (fN f) (nB b1 b0) = 0)) (nB a1 a0) (nB b1 b0) : Nat) : Int), b2i (pkO2 (fN f) (decide (clsF (fN f) (nB b1 b0) = 0)) (nB a1 a0) (nB b1 b0))]) (by simp only [sxs, ph_R1_nan_Pick_2, u8B]; exact pk _ _ (by first | rfl | (simp only [iNz_b2i, beq_nk0]))) (by rfl)).trans ?_
    refine tI (pkO2 (fN f) (decide (clsF (fN f) (nB b1 b0) = 0)) (nB a1 a0) (nB b1 b0) = true) (by simp only [sxs]; exact (Bool.decide_coe _).symm) (fun h4 => ?_) (fun h4 => ?_)
    ·rw [treeF_leaf rfl]
     simp only [sxs]
     rw [rP2 h1 h2 h3 h4]
     simp only [pkF8]
    ·refine tI (clsF (fN f) (nB a1 a0) = 0) (by simp only [sxs, u8A]; exact beq_nk _ 0) (fun h5 => ?_) (fun h5 => ?_)
     ·refine (treeF_call (r := [wd (FP.mk (fN f) (FP.sgn (fN f) (nB a1 a0)) (FP.cod (fN f) (nB a1 a0))) 1, wd (FP.mk (fN f) (FP.sgn (fN f) (nB a1 a0)) (FP.cod (fN f) (nB a1 a0))) 0]) (by simp only [sxs, ph_R1_format_Cut]; exact cuE) (by rfl)).trans ?_
      rw [treeF_leaf rfl]
      simp only [sxs]
      rw [rO h4 h3 (by omega)]
      rfl
     ·refine tI (clsF (fN f) (nB b1 b0) = 3) (by simp only [sxs, u8B]; exact beq_nk _ 3) (fun h6 => ?_) (fun h6 => ?_)
      ·refine (treeF_call (r := [wd (FP.mk (fN f) (FP.sgn (fN f) (nB a1 a0)) (FP.cod (fN f) (nB a1 a0))) 1, wd (FP.mk (fN f) (FP.sgn (fN f) (nB a1 a0)) (FP.cod (fN f) (nB a1 a0))) 0]) (by simp only [sxs, ph_R1_format_Cut]; exact cuE) (by rfl)).trans ?_
       rw [treeF_leaf rfl]
       simp only [sxs]
       rw [rO h4 h3 (by omega)]
       rfl
      ·refine tI (ea < eb - 1) (by simp only [sxs, iea, ieb, ie1]) (fun h7 => ?_) (fun h7 => ?_)
       ·refine (treeF_call (r := [wd (FP.mk (fN f) (FP.sgn (fN f) (nB a1 a0)) (FP.cod (fN f) (nB a1 a0))) 1, wd (FP.mk (fN f) (FP.sgn (fN f) (nB a1 a0)) (FP.cod (fN f) (nB a1 a0))) 0]) (by simp only [sxs, ph_R1_format_Cut]; exact cuE) (by rfl)).trans ?_
        rw [treeF_leaf rfl]
        simp only [sxs]
        rw [rE (fin h4 h3 h5 h6) h7]
        rfl
       ·refine tI (ea = eb - 1) (by simp only [sxs, iea, ieb, ie1]; exact beq_ii _ _) (fun h8 => ?_) (fun h8 => ?_)
        ·refine (treeF_call (r := [wd (x) 0, wd (x) 1, wd (x) 2, wd (x) 3]) (by simp only [sxs, ph_R1_wide_Of]; exact k_wideOf xl) (by rfl)).trans ?_
         refine (treeF_call (r := [nCmp x y]) (by simp only [sxs, ph_R1_word_Cmp]; exact k_wordCmp xl yl) (by rfl)).trans ?_
         refine tI (y < x) (by simp only [sxs, nCmp_i64]; exact nCmp_gt) (fun h9 => ?_) (fun h9 => ?_)
         ·refine (treeF_call (r := [wd (y) 0, wd (y) 1, wd (y) 2, wd (y) 3]) (by simp only [sxs, ph_R1_wide_Of]; exact k_wideOf yl) (by rfl)).trans ?_
          refine (treeF_call (r := [wd (y) 0, wd (y) 1, wd (y) 2, wd (y) 3]) (by simp only [sxs, ph_R1_wide_Of]; exact k_wideOf yl) (by rfl)).trans ?_
          refine (treeF_call (r := [wd (y + y) 0, wd (y + y) 1, wd (y + y) 2, wd (y + y) 3, 0]) (by simp only [sxs, ph_R1_wide_Add]; exact k_wideAdd yy256) (by rfl)).trans ?_
          refine (treeF_call (r := [wd (2 * y - x) 0, wd (2 * y - x) 1, wd (2 * y - x) 2, wd (2 * y - x) 3, 0]) (by simp only [sxs, ph_R1_wide_Sub]; exact wsE (fin h4 h3 h5 h6)) (by rfl)).trans ?_
          refine (treeF_call (r := [b2i (decide (2 * y - x = 0))]) (by simp only [sxs, ph_R1_wide_Zero]; exact k_wideZero (w2lt)) (by rfl)).trans ?_
          refine (treeF_call (r := [wd (FP.mk (fN f) (FP.sgn (fN f) (nB a1 a0) != (true && !decide (2 * y - x = 0))) C) 1, wd (FP.mk (fN f) (FP.sgn (fN f) (nB a1 a0) != (true && !decide (2 * y - x = 0))) C) 0, 0]) (by simp only [sxs, ph_R1_pack_Round]; exact (fs2t (fin h4 h3 h5 h6) h8 h9).2 _ _ (by first | (rw [iNz_b2i, Bool.true_and]; rfl) | (rw [iNz_b2i, Bool.false_and]; rfl)) (by simp only [iea, ieb, i64_i64, iem])) (by rfl)).trans ?_
          refine tF (by simp only [sxs]; rfl) ?_
          rw [treeF_leaf rfl]
          simp only [sxs]
          rw [(fs2t (fin h4 h3 h5 h6) h8 h9).1]
          rfl
         ·refine (treeF_call (r := [wd (FP.mk (fN f) (FP.sgn (fN f) (nB a1 a0) != (false && !decide (x = 0))) C) 1, wd (FP.mk (fN f) (FP.sgn (fN f) (nB a1 a0) != (false && !decide (x = 0))) C) 0, 0]) (by simp only [sxs, ph_R1_pack_Round]; exact (fs2f (fin h4 h3 h5 h6) h8 h9).2 _ _ (by first | (rw [iNz_b2i, Bool.true_and]; rfl) | (rw [iNz_b2i, Bool.false_and]; rfl)) (by simp only [iea, ieb, i64_i64, iem])) (by rfl)).trans ?_
          refine tF (by simp only [sxs]; rfl) ?_
          rw [treeF_leaf rfl]
          simp only [sxs]
          rw [(fs2f (fin h4 h3 h5 h6) h8 h9).1]
          rfl
        ·refine (treeF_call (r := [wd (x + W128 - y) 1, wd (x + W128 - y) 0, b2i (decide (x < y))]) (by simp only [sxs, ph_R1_word_Sub]; exact k_wordSub xl yl) (by rfl)).trans ?_
         refine tI (¬ x < y) (by simp only [sxs]; exact (decide_not).symm) (fun h10 => ?_) (fun h10 => ?_)
         ·refine tI (ea - eb > 0) (by simp only [sxs, iea, ieb, ies]) (fun h11 => ?_) (fun h11 => ?_)
          ·refine (treeF_call (r := [wd ((mdN (x - y) (ea - eb).toNat y).1) 1, wd ((mdN (x - y) (ea - eb).toNat y).1) 0, b2i (mdN (x - y) (ea - eb).toNat y).2, 1]) (by simp only [sxs, ph_R1_quot_Mod, iea, ieb, ies]; rw [wd_sub_128 (p := x) (q := y) (by omega) (by decide), wd_sub_128 (p := x) (q := y) (by omega) (by decide)]; exact k_mod (r0L (fin h4 h3 h5 h6) (by omega)) yl (by omega) (by omega)) (by rfl)).trans ?_
           refine (treeF_call (r := [wd (y - (mdN (x - y) (ea - eb).toNat y).1) 1, wd (y - (mdN (x - y) (ea - eb).toNat y).1) 0, 0]) (by simp only [sxs, ph_R1_word_Sub]; exact k_wordSubLe yl (Nat.le_of_lt (mlt (o := (mdN (x - y) (ea - eb).toNat y).2) (fin h4 h3 h5 h6) (mdL1 (fin h4 h3 h5 h6) (by omega) (by omega))))) (by rfl)).trans ?_
           refine (treeF_call (r := [nCmp ((mdN (x - y) (ea - eb).toNat y).1) (y - (mdN (x - y) (ea - eb).toNat y).1)]) (by simp only [sxs, ph_R1_word_Cmp]; exact k_wordCmp (Nat.lt_trans (mlt (o := (mdN (x - y) (ea - eb).toNat y).2) (fin h4 h3 h5 h6) (mdL1 (fin h4 h3 h5 h6) (by omega) (by omega))) yl) (sub128 yl)) (by rfl)).trans ?_
           refine tI (y - (mdN (x - y) (ea - eb).toNat y).1 < (mdN (x - y) (ea - eb).toNat y).1) (by simp only [sxs, nCmp_i64]; exact nCmp_gt) (fun h12 => ?_) (fun h12 => ?_)
           ·refine (treeF_call (r := [wd (y - (mdN (x - y) (ea - eb).toNat y).1) 0, wd (y - (mdN (x - y) (ea - eb).toNat y).1) 1, wd (y - (mdN (x - y) (ea - eb).toNat y).1) 2, wd (y - (mdN (x - y) (ea - eb).toNat y).1) 3]) (by simp only [sxs, ph_R1_wide_Of]; exact k_wideOf (sub128 yl)) (by rfl)).trans ?_
            refine (treeF_call (r := [b2i (decide (y - (mdN (x - y) (ea - eb).toNat y).1 = 0))]) (by simp only [sxs, ph_R1_wide_Zero]; exact k_wideZero (sub256 yl)) (by rfl)).trans ?_
            refine (treeF_call (r := [wd (FP.mk (fN f) (FP.sgn (fN f) (nB a1 a0) != (true && !decide (y - (mdN (x - y) (ea - eb).toNat y).1 = 0))) C) 1, wd (FP.mk (fN f) (FP.sgn (fN f) (nB a1 a0) != (true && !decide (y - (mdN (x - y) (ea - eb).toNat y).1 = 0))) C) 0, 0]) (by simp only [sxs, ph_R1_pack_Round]; exact (fs3t (fin h4 h3 h5 h6) (by omega) (mdL1 (fin h4 h3 h5 h6) (by omega) (by omega)) (.inl h12)).2 _ _ (by first | (rw [iNz_b2i, Bool.true_and]; rfl) | (rw [iNz_b2i, Bool.false_and]; rfl)) (by simp only [iea, ieb, i64_i64, iem])) (by rfl)).trans ?_
            refine tF (by simp only [sxs]; rfl) ?_
            rw [treeF_leaf rfl]
            simp only [sxs]
            rw [(fs3t (fin h4 h3 h5 h6) (by omega) (mdL1 (fin h4 h3 h5 h6) (by omega) (by omega)) (.inl h12)).1]
            rfl
           ·refine tI ((mdN (x - y) (ea - eb).toNat y).1 = y - (mdN (x - y) (ea - eb).toNat y).1) (by simp only [sxs, nCmp_i64]; exact nCmp_eq) (fun h13 => ?_) (fun h13 => ?_)
            ·refine tI ((mdN (x - y) (ea - eb).toNat y).2 = true) (by simp only [sxs]; exact (Bool.decide_coe _).symm) (fun h14 => ?_) (fun h14 => ?_)
             ·refine (treeF_call (r := [wd (y - (mdN (x - y) (ea - eb).toNat y).1) 0, wd (y - (mdN (x - y) (ea - eb).toNat y).1) 1, wd (y - (mdN (x - y) (ea - eb).toNat y).1) 2, wd (y - (mdN (x - y) (ea - eb).toNat y).1) 3]) (by simp only [sxs, ph_R1_wide_Of]; exact k_wideOf (sub128 yl)) (by rfl)).trans ?_
              refine (treeF_call (r := [b2i (decide (y - (mdN (x - y) (ea - eb).toNat y).1 = 0))]) (by simp only [sxs, ph_R1_wide_Zero]; exact k_wideZero (sub256 yl)) (by rfl)).trans ?_
              refine (treeF_call (r := [wd (FP.mk (fN f) (FP.sgn (fN f) (nB a1 a0) != (true && !decide (y - (mdN (x - y) (ea - eb).toNat y).1 = 0))) C) 1, wd (FP.mk (fN f) (FP.sgn (fN f) (nB a1 a0) != (true && !decide (y - (mdN (x - y) (ea - eb).toNat y).1 = 0))) C) 0, 0]) (by simp only [sxs, ph_R1_pack_Round]; exact (fs3t (fin h4 h3 h5 h6) (by omega) (mdL1 (fin h4 h3 h5 h6) (by omega) (by omega)) (.inr ⟨h13, h14⟩)).2 _ _ (by first | (rw [iNz_b2i, Bool.true_and]; rfl) | (rw [iNz_b2i, Bool.false_and]; rfl)) (by simp only [iea, ieb, i64_i64, iem])) (by rfl)).trans ?_
              refine tF (by simp only [sxs]; rfl) ?_
              rw [treeF_leaf rfl]
              simp only [sxs]
              rw [(fs3t (fin h4 h3 h5 h6) (by omega) (mdL1 (fin h4 h3 h5 h6) (by omega) (by omega)) (.inr ⟨h13, h14⟩)).1]
              rfl
             ·refine (treeF_call (r := [wd ((mdN (x - y) (ea - eb).toNat y).1) 0, wd ((mdN (x - y) (ea - eb).toNat y).1) 1, wd ((mdN (x - y) (ea - eb).toNat y).1) 2, wd ((mdN (x - y) (ea - eb).toNat y).1) 3]) (by simp only [sxs, ph_R1_wide_Of]; exact k_wideOf (Nat.lt_trans (mlt (o := (mdN (x - y) (ea - eb).toNat y).2) (fin h4 h3 h5 h6) (mdL1 (fin h4 h3 h5 h6) (by omega) (by omega))) yl)) (by rfl)).trans ?_
              refine (treeF_call (r := [wd (FP.mk (fN f) (FP.sgn (fN f) (nB a1 a0) != (false && !decide ((mdN (x - y) (ea - eb).toNat y).1 = 0))) C) 1, wd (FP.mk (fN f) (FP.sgn (fN f) (nB a1 a0) != (false && !decide ((mdN (x - y) (ea - eb).toNat y).1 = 0))) C) 0, 0]) (by simp only [sxs, ph_R1_pack_Round]; exact (fs3f (fin h4 h3 h5 h6) (by omega) (mdL1 (fin h4 h3 h5 h6) (by omega) (by omega)) h12 (fun h => h14 h.2)).2 _ _ (by first | (rw [iNz_b2i, Bool.true_and]; rfl) | (rw [iNz_b2i, Bool.false_and]; rfl)) (by simp only [iea, ieb, i64_i64, iem])) (by rfl)).trans ?_
              refine tF (by simp only [sxs]; rfl) ?_
              rw [treeF_leaf rfl]
              simp only [sxs]
              rw [(fs3f (fin h4 h3 h5 h6) (by omega) (mdL1 (fin h4 h3 h5 h6) (by omega) (by omega)) h12 (fun h => h14 h.2)).1]
              rfl
            ·refine (treeF_call (r := [wd ((mdN (x - y) (ea - eb).toNat y).1) 0, wd ((mdN (x - y) (ea - eb).toNat y).1) 1, wd ((mdN (x - y) (ea - eb).toNat y).1) 2, wd ((mdN (x - y) (ea - eb).toNat y).1) 3]) (by simp only [sxs, ph_R1_wide_Of]; exact k_wideOf (Nat.lt_trans (mlt (o := (mdN (x - y) (ea - eb).toNat y).2) (fin h4 h3 h5 h6) (mdL1 (fin h4 h3 h5 h6) (by omega) (by omega))) yl)) (by rfl)).trans ?_
             refine (treeF_call (r := [wd (FP.mk (fN f) (FP.sgn (fN f) (nB a1 a0) != (false && !decide ((mdN (x - y) (ea - eb).toNat y).1 = 0))) C) 1, wd (FP.mk (fN f) (FP.sgn (fN f) (nB a1 a0) != (false && !decide ((mdN (x - y) (ea - eb).toNat y).1 = 0))) C) 0, 0]) (by simp only [sxs, ph_R1_pack_Round]; exact (fs3f (fin h4 h3 h5 h6) (by omega) (mdL1 (fin h4 h3 h5 h6) (by omega) (by omega)) h12 (fun h => h13 h.1)).2 _ _ (by first | (rw [iNz_b2i, Bool.true_and]; rfl) | (rw [iNz_b2i, Bool.false_and]; rfl)) (by simp only [iea, ieb, i64_i64, iem])) (by rfl)).trans ?_
             refine tF (by simp only [sxs]; rfl) ?_
             rw [treeF_leaf rfl]
             simp only [sxs]
             rw [(fs3f (fin h4 h3 h5 h6) (by omega) (mdL1 (fin h4 h3 h5 h6) (by omega) (by omega)) h12 (fun h => h13 h.1)).1]
             rfl
          ·refine (treeF_call (r := [wd (y - (x - y)) 1, wd (y - (x - y)) 0, 0]) (by simp only [sxs, ph_R1_word_Sub]; rw [wd_sub_128 (p := x) (q := y) (by omega) (by decide), wd_sub_128 (p := x) (q := y) (by omega) (by decide)]; exact k_wordSubLe yl (Nat.le_of_lt (mlt (o := true) (fin h4 h3 h5 h6) (mdL0 (fin h4 h3 h5 h6) (by omega) (by omega))))) (by rfl)).trans ?_
           refine (treeF_call (r := [nCmp ((x - y)) (y - (x - y))]) (by simp only [sxs, ph_R1_word_Cmp]; rw [wd_sub_128 (p := x) (q := y) (by omega) (by decide), wd_sub_128 (p := x) (q := y) (by omega) (by decide)]; exact k_wordCmp (Nat.lt_trans (mlt (o := true) (fin h4 h3 h5 h6) (mdL0 (fin h4 h3 h5 h6) (by omega) (by omega))) yl) (sub128 yl)) (by rfl)).trans ?_
           refine tI (y - (x - y) < (x - y)) (by simp only [sxs, nCmp_i64]; exact nCmp_gt) (fun h15 => ?_) (fun h15 => ?_)
           ·refine (treeF_call (r := [wd (y - (x - y)) 0, wd (y - (x - y)) 1, wd (y - (x - y)) 2, wd (y - (x - y)) 3]) (by simp only [sxs, ph_R1_wide_Of]; exact k_wideOf (sub128 yl)) (by rfl)).trans ?_
            refine (treeF_call (r := [b2i (decide (y - (x - y) = 0))]) (by simp only [sxs, ph_R1_wide_Zero]; exact k_wideZero (sub256 yl)) (by rfl)).trans ?_
            refine (treeF_call (r := [wd (FP.mk (fN f) (FP.sgn (fN f) (nB a1 a0) != (true && !decide (y - (x - y) = 0))) C) 1, wd (FP.mk (fN f) (FP.sgn (fN f) (nB a1 a0) != (true && !decide (y - (x - y) = 0))) C) 0, 0]) (by simp only [sxs, ph_R1_pack_Round]; exact (fs3t (fin h4 h3 h5 h6) (by omega) (mdL0 (fin h4 h3 h5 h6) (by omega) (by omega)) (.inl h15)).2 _ _ (by first | (rw [iNz_b2i, Bool.true_and]; rfl) | (rw [iNz_b2i, Bool.false_and]; rfl)) (by simp only [iea, ieb, i64_i64, iem])) (by rfl)).trans ?_
            refine tF (by simp only [sxs]; rfl) ?_
            rw [treeF_leaf rfl]
            simp only [sxs]
            rw [(fs3t (fin h4 h3 h5 h6) (by omega) (mdL0 (fin h4 h3 h5 h6) (by omega) (by omega)) (.inl h15)).1]
            rfl
           ·refine tI ((x - y) = y - (x - y)) (by simp only [sxs, nCmp_i64]; exact nCmp_eq) (fun h16 => ?_) (fun h16 => ?_)
            ·refine (treeF_call (r := [wd (y - (x - y)) 0, wd (y - (x - y)) 1, wd (y - (x - y)) 2, wd (y - (x - y)) 3]) (by simp only [sxs, ph_R1_wide_Of]; exact k_wideOf (sub128 yl)) (by rfl)).trans ?_
             refine (treeF_call (r := [b2i (decide (y - (x - y) = 0))]) (by simp only [sxs, ph_R1_wide_Zero]; exact k_wideZero (sub256 yl)) (by rfl)).trans ?_
             refine (treeF_call (r := [wd (FP.mk (fN f) (FP.sgn (fN f) (nB a1 a0) != (true && !decide (y - (x - y) = 0))) C) 1, wd (FP.mk (fN f) (FP.sgn (fN f) (nB a1 a0) != (true && !decide (y - (x - y) = 0))) C) 0, 0]) (by simp only [sxs, ph_R1_pack_Round]; exact (fs3t (fin h4 h3 h5 h6) (by omega) (mdL0 (fin h4 h3 h5 h6) (by omega) (by omega)) (.inr ⟨h16, rfl⟩)).2 _ _ (by first | (rw [iNz_b2i, Bool.true_and]; rfl) | (rw [iNz_b2i, Bool.false_and]; rfl)) (by simp only [iea, ieb, i64_i64, iem])) (by rfl)).trans ?_
             refine tF (by simp only [sxs]; rfl) ?_
             rw [treeF_leaf rfl]
             simp only [sxs]
             rw [(fs3t (fin h4 h3 h5 h6) (by omega) (mdL0 (fin h4 h3 h5 h6) (by omega) (by omega)) (.inr ⟨h16, rfl⟩)).1]
             rfl
            ·refine (treeF_call (r := [wd ((x - y)) 0, wd ((x - y)) 1, wd ((x - y)) 2, wd ((x - y)) 3]) (by simp only [sxs, ph_R1_wide_Of]; rw [wd_sub_128 (p := x) (q := y) (by omega) (by decide), wd_sub_128 (p := x) (q := y) (by omega) (by decide)]; exact k_wideOf (Nat.lt_trans (mlt (o := true) (fin h4 h3 h5 h6) (mdL0 (fin h4 h3 h5 h6) (by omega) (by omega))) yl)) (by rfl)).trans ?_
             refine (treeF_call (r := [wd (FP.mk (fN f) (FP.sgn (fN f) (nB a1 a0) != (false && !decide ((x - y) = 0))) C) 1, wd (FP.mk (fN f) (FP.sgn (fN f) (nB a1 a0) != (false && !decide ((x - y) = 0))) C) 0, 0]) (by simp only [sxs, ph_R1_pack_Round]; exact (fs3f (fin h4 h3 h5 h6) (by omega) (mdL0 (fin h4 h3 h5 h6) (by omega) (by omega)) h15 (fun h => h16 h.1)).2 _ _ (by first | (rw [iNz_b2i, Bool.true_and]; rfl) | (rw [iNz_b2i, Bool.false_and]; rfl)) (by simp only [iea, ieb, i64_i64, iem])) (by rfl)).trans ?_
             refine tF (by simp only [sxs]; rfl) ?_
             rw [treeF_leaf rfl]
             simp only [sxs]
             rw [(fs3f (fin h4 h3 h5 h6) (by omega) (mdL0 (fin h4 h3 h5 h6) (by omega) (by omega)) h15 (fun h => h16 h.1)).1]
             rfl
         ·refine tI (ea - eb > 0) (by simp only [sxs, iea, ieb, ies]) (fun h17 => ?_) (fun h17 => ?_)
          ·refine (treeF_call (r := [wd ((mdN (x) (ea - eb).toNat y).1) 1, wd ((mdN (x) (ea - eb).toNat y).1) 0, b2i (mdN (x) (ea - eb).toNat y).2, 1]) (by simp only [sxs, ph_R1_quot_Mod, iea, ieb, ies]; exact k_mod (r0S (fin h4 h3 h5 h6) (by omega)) yl (by omega) (by omega)) (by rfl)).trans ?_
           refine (treeF_call (r := [wd (y - (mdN (x) (ea - eb).toNat y).1) 1, wd (y - (mdN (x) (ea - eb).toNat y).1) 0, 0]) (by simp only [sxs, ph_R1_word_Sub]; exact k_wordSubLe yl (Nat.le_of_lt (mlt (o := (mdN (x) (ea - eb).toNat y).2) (fin h4 h3 h5 h6) (mdS1 (fin h4 h3 h5 h6) (by omega) (by omega))))) (by rfl)).trans ?_
           refine (treeF_call (r := [nCmp ((mdN (x) (ea - eb).toNat y).1) (y - (mdN (x) (ea - eb).toNat y).1)]) (by simp only [sxs, ph_R1_word_Cmp]; exact k_wordCmp (Nat.lt_trans (mlt (o := (mdN (x) (ea - eb).toNat y).2) (fin h4 h3 h5 h6) (mdS1 (fin h4 h3 h5 h6) (by omega) (by omega))) yl) (sub128 yl)) (by rfl)).trans ?_
           refine tI (y - (mdN (x) (ea - eb).toNat y).1 < (mdN (x) (ea - eb).toNat y).1) (by simp only [sxs, nCmp_i64]; exact nCmp_gt) (fun h18 => ?_) (fun h18 => ?_)
           ·refine (treeF_call (r := [wd (y - (mdN (x) (ea - eb).toNat y).1) 0, wd (y - (mdN (x) (ea - eb).toNat y).1) 1, wd (y - (mdN (x) (ea - eb).toNat y).1) 2, wd (y - (mdN (x) (ea - eb).toNat y).1) 3]) (by simp only [sxs, ph_R1_wide_Of]; exact k_wideOf (sub128 yl)) (by rfl)).trans ?_
            refine (treeF_call (r := [b2i (decide (y - (mdN (x) (ea - eb).toNat y).1 = 0))]) (by simp only [sxs, ph_R1_wide_Zero]; exact k_wideZero (sub256 yl)) (by rfl)).trans ?_
            refine (treeF_call (r := [wd (FP.mk (fN f) (FP.sgn (fN f) (nB a1 a0) != (true && !decide (y - (mdN (x) (ea - eb).toNat y).1 = 0))) C) 1, wd (FP.mk (fN f) (FP.sgn (fN f) (nB a1 a0) != (true && !decide (y - (mdN (x) (ea - eb).toNat y).1 = 0))) C) 0, 0]) (by simp only [sxs, ph_R1_pack_Round]; exact (fs3t (fin h4 h3 h5 h6) (by omega) (mdS1 (fin h4 h3 h5 h6) (by omega) (by omega)) (.inl h18)).2 _ _ (by first | (rw [iNz_b2i, Bool.true_and]; rfl) | (rw [iNz_b2i, Bool.false_and]; rfl)) (by simp only [iea, ieb, i64_i64, iem])) (by rfl)).trans ?_
            refine tF (by simp only [sxs]; rfl) ?_
            rw [treeF_leaf rfl]
            simp only [sxs]
            rw [(fs3t (fin h4 h3 h5 h6) (by omega) (mdS1 (fin h4 h3 h5 h6) (by omega) (by omega)) (.inl h18)).1]
            rfl
           ·refine tI ((mdN (x) (ea - eb).toNat y).1 = y - (mdN (x) (ea - eb).toNat y).1) (by simp only [sxs, nCmp_i64]; exact nCmp_eq) (fun h19 => ?_) (fun h19 => ?_)
            ·refine tI ((mdN (x) (ea - eb).toNat y).2 = true) (by simp only [sxs]; exact (Bool.decide_coe _).symm) (fun h20 => ?_) (fun h20 => ?_)
             ·refine (treeF_call (r := [wd (y - (mdN (x) (ea - eb).toNat y).1) 0, wd (y - (mdN (x) (ea - eb).toNat y).1) 1, wd (y - (mdN (x) (ea - eb).toNat y).1) 2, wd (y - (mdN (x) (ea - eb).toNat y).1) 3]) (by simp only [sxs, ph_R1_wide_Of]; exact k_wideOf (sub128 yl)) (by rfl)).trans ?_
              refine (treeF_call (r := [b2i (decide (y - (mdN (x) (ea - eb).toNat y).1 = 0))]) (by simp only [sxs, ph_R1_wide_Zero]; exact k_wideZero (sub256 yl)) (by rfl)).trans ?_
              refine (treeF_call (r := [wd (FP.mk (fN f) (FP.sgn (fN f) (nB a1 a0) != (true && !decide (y - (mdN (x) (ea - eb).toNat y).1 = 0))) C) 1, wd (FP.mk (fN f) (FP.sgn (fN f) (nB a1 a0) != (true && !decide (y - (mdN (x) (ea - eb).toNat y).1 = 0))) C) 0, 0]) (by simp only [sxs, ph_R1_pack_Round]; exact (fs3t (fin h4 h3 h5 h6) (by omega) (mdS1 (fin h4 h3 h5 h6) (by omega) (by omega)) (.inr ⟨h19, h20⟩)).2 _ _ (by first | (rw [iNz_b2i, Bool.true_and]; rfl) | (rw [iNz_b2i, Bool.false_and]; rfl)) (by simp only [iea, ieb, i64_i64, iem])) (by rfl)).trans ?_
              refine tF (by simp only [sxs]; rfl) ?_
              rw [treeF_leaf rfl]
              simp only [sxs]
              rw [(fs3t (fin h4 h3 h5 h6) (by omega) (mdS1 (fin h4 h3 h5 h6) (by omega) (by omega)) (.inr ⟨h19, h20⟩)).1]
              rfl
             ·refine (treeF_call (r := [wd ((mdN (x) (ea - eb).toNat y).1) 0, wd ((mdN (x) (ea - eb).toNat y).1) 1, wd ((mdN (x) (ea - eb).toNat y).1) 2, wd ((mdN (x) (ea - eb).toNat y).1) 3]) (by simp only [sxs, ph_R1_wide_Of]; exact k_wideOf (Nat.lt_trans (mlt (o := (mdN (x) (ea - eb).toNat y).2) (fin h4 h3 h5 h6) (mdS1 (fin h4 h3 h5 h6) (by omega) (by omega))) yl)) (by rfl)).trans ?_
              refine (treeF_call (r := [wd (FP.mk (fN f) (FP.sgn (fN f) (nB a1 a0) != (false && !decide ((mdN (x) (ea - eb).toNat y).1 = 0))) C) 1, wd (FP.mk (fN f) (FP.sgn (fN f) (nB a1 a0) != (false && !decide ((mdN (x) (ea - eb).toNat y).1 = 0))) C) 0, 0]) (by simp only [sxs, ph_R1_pack_Round]; exact (fs3f (fin h4 h3 h5 h6) (by omega) (mdS1 (fin h4 h3 h5 h6) (by omega) (by omega)) h18 (fun h => h20 h.2)).2 _ _ (by first | (rw [iNz_b2i, Bool.true_and]; rfl) | (rw [iNz_b2i, Bool.false_and]; rfl)) (by simp only [iea, ieb, i64_i64, iem])) (by rfl)).trans ?_
              refine tF (by simp only [sxs]; rfl) ?_
              rw [treeF_leaf rfl]
              simp only [sxs]
              rw [(fs3f (fin h4 h3 h5 h6) (by omega) (mdS1 (fin h4 h3 h5 h6) (by omega) (by omega)) h18 (fun h => h20 h.2)).1]
              rfl
            ·refine (treeF_call (r := [wd ((mdN (x) (ea - eb).toNat y).1) 0, wd ((mdN (x) (ea - eb).toNat y).1) 1, wd ((mdN (x) (ea - eb).toNat y).1) 2, wd ((mdN (x) (ea - eb).toNat y).1) 3]) (by simp only [sxs, ph_R1_wide_Of]; exact k_wideOf (Nat.lt_trans (mlt (o := (mdN (x) (ea - eb).toNat y).2) (fin h4 h3 h5 h6) (mdS1 (fin h4 h3 h5 h6) (by omega) (by omega))) yl)) (by rfl)).trans ?_
             refine (treeF_call (r := [wd (FP.mk (fN f) (FP.sgn (fN f) (nB a1 a0) != (false && !decide ((mdN (x) (ea - eb).toNat y).1 = 0))) C) 1, wd (FP.mk (fN f) (FP.sgn (fN f) (nB a1 a0) != (false && !decide ((mdN (x) (ea - eb).toNat y).1 = 0))) C) 0, 0]) (by simp only [sxs, ph_R1_pack_Round]; exact (fs3f (fin h4 h3 h5 h6) (by omega) (mdS1 (fin h4 h3 h5 h6) (by omega) (by omega)) h18 (fun h => h19 h.1)).2 _ _ (by first | (rw [iNz_b2i, Bool.true_and]; rfl) | (rw [iNz_b2i, Bool.false_and]; rfl)) (by simp only [iea, ieb, i64_i64, iem])) (by rfl)).trans ?_
             refine tF (by simp only [sxs]; rfl) ?_
             rw [treeF_leaf rfl]
             simp only [sxs]
             rw [(fs3f (fin h4 h3 h5 h6) (by omega) (mdS1 (fin h4 h3 h5 h6) (by omega) (by omega)) h18 (fun h => h19 h.1)).1]
             rfl
          ·refine (treeF_call (r := [wd (y - (x)) 1, wd (y - (x)) 0, 0]) (by simp only [sxs, ph_R1_word_Sub]; exact k_wordSubLe yl (Nat.le_of_lt (mlt (o := false) (fin h4 h3 h5 h6) (mdS0 (fin h4 h3 h5 h6) (by omega) (by omega))))) (by rfl)).trans ?_
           refine (treeF_call (r := [nCmp ((x)) (y - (x))]) (by simp only [sxs, ph_R1_word_Cmp]; exact k_wordCmp (Nat.lt_trans (mlt (o := false) (fin h4 h3 h5 h6) (mdS0 (fin h4 h3 h5 h6) (by omega) (by omega))) yl) (sub128 yl)) (by rfl)).trans ?_
           refine tI (y - (x) < (x)) (by simp only [sxs, nCmp_i64]; exact nCmp_gt) (fun h21 => ?_) (fun h21 => ?_)
           ·refine (treeF_call (r := [wd (y - (x)) 0, wd (y - (x)) 1, wd (y - (x)) 2, wd (y - (x)) 3]) (by simp only [sxs, ph_R1_wide_Of]; exact k_wideOf (sub128 yl)) (by rfl)).trans ?_
            refine (treeF_call (r := [b2i (decide (y - (x) = 0))]) (by simp only [sxs, ph_R1_wide_Zero]; exact k_wideZero (sub256 yl)) (by rfl)).trans ?_
            refine (treeF_call (r := [wd (FP.mk (fN f) (FP.sgn (fN f) (nB a1 a0) != (true && !decide (y - (x) = 0))) C) 1, wd (FP.mk (fN f) (FP.sgn (fN f) (nB a1 a0) != (true && !decide (y - (x) = 0))) C) 0, 0]) (by simp only [sxs, ph_R1_pack_Round]; exact (fs3t (fin h4 h3 h5 h6) (by omega) (mdS0 (fin h4 h3 h5 h6) (by omega) (by omega)) (.inl h21)).2 _ _ (by first | (rw [iNz_b2i, Bool.true_and]; rfl) | (rw [iNz_b2i, Bool.false_and]; rfl)) (by simp only [iea, ieb, i64_i64, iem])) (by rfl)).trans ?_
            refine tF (by simp only [sxs]; rfl) ?_
            rw [treeF_leaf rfl]
            simp only [sxs]
            rw [(fs3t (fin h4 h3 h5 h6) (by omega) (mdS0 (fin h4 h3 h5 h6) (by omega) (by omega)) (.inl h21)).1]
            rfl
           ·refine tI ((x) = y - (x)) (by simp only [sxs, nCmp_i64]; exact nCmp_eq) (fun h22 => ?_) (fun h22 => ?_)
            ·refine (treeF_call (r := [wd ((x)) 0, wd ((x)) 1, wd ((x)) 2, wd ((x)) 3]) (by simp only [sxs, ph_R1_wide_Of]; exact k_wideOf (Nat.lt_trans (mlt (o := false) (fin h4 h3 h5 h6) (mdS0 (fin h4 h3 h5 h6) (by omega) (by omega))) yl)) (by rfl)).trans ?_
             refine (treeF_call (r := [wd (FP.mk (fN f) (FP.sgn (fN f) (nB a1 a0) != (false && !decide ((x) = 0))) C) 1, wd (FP.mk (fN f) (FP.sgn (fN f) (nB a1 a0) != (false && !decide ((x) = 0))) C) 0, 0]) (by simp only [sxs, ph_R1_pack_Round]; exact (fs3f (fin h4 h3 h5 h6) (by omega) (mdS0 (fin h4 h3 h5 h6) (by omega) (by omega)) h21 (fun h => Bool.false_ne_true h.2)).2 _ _ (by first | (rw [iNz_b2i, Bool.true_and]; rfl) | (rw [iNz_b2i, Bool.false_and]; rfl)) (by simp only [iea, ieb, i64_i64, iem])) (by rfl)).trans ?_
             refine tF (by simp only [sxs]; rfl) ?_
             rw [treeF_leaf rfl]
             simp only [sxs]
             rw [(fs3f (fin h4 h3 h5 h6) (by omega) (mdS0 (fin h4 h3 h5 h6) (by omega) (by omega)) h21 (fun h => Bool.false_ne_true h.2)).1]
             rfl
            ·refine (treeF_call (r := [wd ((x)) 0, wd ((x)) 1, wd ((x)) 2, wd ((x)) 3]) (by simp only [sxs, ph_R1_wide_Of]; exact k_wideOf (Nat.lt_trans (mlt (o := false) (fin h4 h3 h5 h6) (mdS0 (fin h4 h3 h5 h6) (by omega) (by omega))) yl)) (by rfl)).trans ?_
             refine (treeF_call (r := [wd (FP.mk (fN f) (FP.sgn (fN f) (nB a1 a0) != (false && !decide ((x) = 0))) C) 1, wd (FP.mk (fN f) (FP.sgn (fN f) (nB a1 a0) != (false && !decide ((x) = 0))) C) 0, 0]) (by simp only [sxs, ph_R1_pack_Round]; exact (fs3f (fin h4 h3 h5 h6) (by omega) (mdS0 (fin h4 h3 h5 h6) (by omega) (by omega)) h21 (fun h => h22 h.1)).2 _ _ (by first | (rw [iNz_b2i, Bool.true_and]; rfl) | (rw [iNz_b2i, Bool.false_and]; rfl)) (by simp only [iea, ieb, i64_i64, iem])) (by rfl)).trans ?_
             refine tF (by simp only [sxs]; rfl) ?_
             rw [treeF_leaf rfl]
             simp only [sxs]
             rw [(fs3f (fin h4 h3 h5 h6) (by omega) (mdS0 (fin h4 h3 h5 h6) (by omega) (by omega)) h21 (fun h => h22 h.1)).1]
             rfl
end Go.Proofs.YtkfbdlidigmfbaaGreatDoor
