import Derived.Test.YtkfbdlidigmfbaaGreatDoorP42B1
import Derived.Test.YtkfbdlidigmfbaaGreatDoorP43B1
import Derived.Test.YtkfbdlidigmfbaaGreatDoorP32B1
import Derived.Test.YtkfbdlidigmfbaaGreatDoorWDB1
namespace Go.Proofs.YtkfbdlidigmfbaaGreatDoor
set_option linter.unusedVariables false
set_option linter.unusedSimpArgs false
set_option maxRecDepth 100000
open Go.RowKit
theorem pow_le128' {k : Nat} (h : k ≤ 128) : 2 ^ k ≤ W128 := pow_le128 h
theorem makeN_W {f : Nat} (hf : f < 4) (n : Bool) (e : Int) (c : Nat) : makeN f n e c < W128 := by
 unfold makeN; exact mk_W hf n (code_lt hf)
theorem low_one {f r P Q : Nat} (hf : f < 3) (hr : r < 2 ^ (FP.fP f - 1)) (hP : FP.fP f = P) (hQ : FP.fP (f + 1) = Q) : FP.oneC (f + 1) + r * 2 ^ (Q - P) < FP.inf (f + 1) := by
 subst hP; subst hQ
 obtain ⟨j, g, hj, hg, p1, e1, u1, u2, p2, e2⟩ := FP.nxt hf
 have h1 : r * 2 ^ (FP.fP (f + 1) - FP.fP f) < 2 ^ (FP.fP (f + 1) - 1) := by
  rw [show FP.fP (f + 1) - FP.fP f = j by omega, show FP.fP (f + 1) - 1 = FP.fP f - 1 + j by omega, Nat.pow_add]
  exact Nat.mul_lt_mul_of_pos_right hr (FP.two_pow_pos j)
 have h2 : FP.oneC (f + 1) = FP.fE (f + 1) * 2 ^ (FP.fP (f + 1) - 1) := rfl
 have h3 : FP.inf (f + 1) = (2 * FP.fE (f + 1) + 1) * 2 ^ (FP.fP (f + 1) - 1) := rfl
 rw [h2, h3]
 generalize 2 ^ (FP.fP (f + 1) - 1) = H at *
 rw [Nat.add_mul, Nat.one_mul, Nat.mul_assoc]
 have : FP.fE (f + 1) * H ≤ 2 * (FP.fE (f + 1) * H) := by omega
 omega
theorem fN_succ3 {f : Int} (h : fN f ≤ 2) : fN (u8 (u8 f + 1)) = fN f + 1 := by
 have := u8_rng f
 unfold fN at *
 rw [u8_u8, u8_id (by omega) (by omega)]; omega
theorem k_format_Split {F a1 a0 : Int} {φ A c E r : Nat} {s : Bool} (hF : fN F = φ) (hφ : φ < 4) (hA : nB a1 a0 = A) (hs : FP.sgn φ A = s) (hc : FP.cod φ A = c) (hE : c / 2 ^ (FP.fP φ - 1) = E) (hr : c % 2 ^ (FP.fP φ - 1) = r) :
  F_format_Split [F, a1, a0] = [b2i s, ((E : Nat) : Int), wd r 1, wd r 0] := by
 rw [s_format_Split, hF, if_pos hφ, hA, hs, hc, hE, hr, oB_eq]; rfl
theorem k_make {F G x a1 a0 : Int} {φ n A : Nat} {e : Int} (hF : fN F = φ) (hφ : φ < 4) (hx : i64 x = e) (hA : nB a1 a0 = A) (hm : makeN φ false e A = n) : F_format_Make [F, 0, x, a1, a0] = [wd n 1, wd n 0] := by
 rw [s_format_Make, hF, if_pos hφ, hx, hA, show iNz 0 = false by decide, hm, oB_eq]
theorem getI_right (l r : List Int) (j : Nat) : getI (l ++ r) (l.length + j) = getI r j := by
 induction l with
 | nil => rw [List.nil_append, List.length_nil, Nat.zero_add]
 | cons a l ih => rw [List.cons_append, List.length_cons, show l.length + 1 + j = (l.length + j) + 1 by omega, getI_s]; exact ih
theorem push (l r : List Int) : ∃ l', l ++ r = l' ∧ l'.length = l.length + r.length ∧ (∀ j, j < l.length → getI l' j = getI l j) ∧ ∀ j, getI l' (l.length + j) = getI r j :=
 ⟨_, rfl, List.length_append, fun j h => getI_append l r j h, fun j => getI_right l r j⟩
structure EnvW (f : Int) (E : Nat) (l : List Int) (n h y : Nat) : Prop where
 len : l.length = n
 hn : 10 ≤ n
 hh : h + 1 < n
 g0 : getI l 0 = f
 g4 : getI l 4 = ((E : Nat) : Int)
 g8 : getI l 8 = wd (FP.mk (fN f + 1) false (FP.oneC (fN f + 1))) 1
 g9 : getI l 9 = wd (FP.mk (fN f + 1) false (FP.oneC (fN f + 1))) 0
 gh : getI l h = wd y 1
 gl : getI l (h + 1) = wd y 0
theorem EnvW.push {f : Int} {E : Nat} {l : List Int} {n h y : Nat} (w : EnvW f E l n h y) (r : List Int) : ∃ l', l ++ r = l' ∧ EnvW f E l' (n + r.length) h y ∧ (∀ j, j < n → getI l' j = getI l j) ∧ ∀ j, getI l' (n + j) = getI r j := by
 obtain ⟨l', e, hlen, hlo, hhi⟩ := Go.Proofs.YtkfbdlidigmfbaaGreatDoor.push l r
 have hn := w.hn
 have hh := w.hh
 rw [w.len] at hlen hlo hhi
 exact ⟨l', e, ⟨hlen, by omega, by omega, by rw [hlo _ (by omega)]; exact w.g0, by rw [hlo _ (by omega)]; exact w.g4, by rw [hlo _ (by omega)]; exact w.g8, by rw [hlo _ (by omega)]; exact w.g9, by rw [hlo _ (by omega)]; exact w.gh, by rw [hlo _ (by omega)]; exact w.gl⟩, hlo, hhi⟩
theorem tail_ok {f : Int} {x E y0 y d : Nat} (h2 : fN f ≤ 2) (hx0 : 0 < x) (hx : x < FP.inf (fN f)) (hE : x / 2 ^ (FP.fP (fN f) - 1) = E) (hr : x % 2 ^ (FP.fP (fN f) - 1) = y0) (hd : d < FP.inf (fN f + 1)) (hv : FP.val (fN f) x * 2 ^ FP.fU (fN f + 1) = FP.val (fN f + 1) d * 2 ^ FP.fU (fN f))
  (hy : y = y0 * 2 ^ (FP.fP (fN f + 1) - FP.fP (fN f))) (ly : y < W128) {l : List Int} {n h : Nat} (w : EnvW f E l n h y) :
  treeF (phiA LWD NZ ZZ) c_law22_widened (tailW n h) l = [wd (FP.mk (fN f + 1) false d) 1, wd (FP.mk (fN f + 1) false d) 0] := by
 have hf3 : fN f < 3 := by omega
 have hf : fN f < 4 := by omega
 have hg : fN f + 1 < 4 := by omega
 have hG : fN (u8 (u8 f + 1)) = fN f + 1 := fN_succ3 h2
 have hl : x < 2 ^ (FP.fW (fN f) - 1) := Nat.lt_trans hx (inf_lt hf)
 have hrl := Nat.mod_lt x (FP.two_pow_pos (FP.fP (fN f) - 1))
 have hEb : x / 2 ^ (FP.fP (fN f) - 1) < 1000000 := (cod_field hf hl).2
 have lone := mk_W hg false (Nat.lt_trans (FP.oneC_fin hg) (inf_lt hg))
 obtain ⟨n1, n2, n3, n4, n5, n6, n7, n8, n9⟩ := FP.fmtN hf
 obtain ⟨m1, m2, m3, m4, m5, m6, m7, m8, m9⟩ := FP.fmtN hg
 have g0 := w.g0
 have g4 := w.g4
 unfold tailW
 by_cases hE0 : 0 < E
 ·refine tT (by simp only [sxs, g4]; rw [i64_nat (by omega)]; exact decide_eq_true (by omega)) ?_
  have hDD := wide_norm hf3 hx (by rw [hE]; exact hE0) hd hv
  rw [hE, hr, ← hy] at hDD
  have hDe : i64 (i64 (i64 (i64 (E : Int) - i64 (FP.fE (fN f) : Int)) + i64 (FP.fE (fN f + 1) : Int))) = (E : Int) - (FP.fE (fN f) : Int) + (FP.fE (fN f + 1) : Int) := by rw [i64_fE, i64_fE, i64_i64, i64_nat (by omega), i64_id (show -9223372036854775808 ≤ (E : Int) - (FP.fE (fN f) : Int) by omega) (by omega), i64_id (by omega) (by omega)]
  refine (treeF_call (r := [((FP.fE (fN f) : Nat) : Int)]) (by simp only [sxs, g0, ph_WD_format_Emax]; exact k_format_Emax (fN_u f)) rfl).trans ?_
  obtain ⟨l1, e1, w1, o1, p1⟩ := w.push [((FP.fE (fN f) : Nat) : Int)]
  rw [e1]
  have a1 : getI l1 n = ((FP.fE (fN f) : Nat) : Int) := p1 0
  have g0 := w1.g0
  refine (treeF_call (r := [((FP.fE (fN f + 1) : Nat) : Int)]) (by simp only [sxs, g0, ph_WD_format_Emax]; exact k_format_Emax hG) rfl).trans ?_
  obtain ⟨l2, e2, w2, o2, p2⟩ := w1.push [((FP.fE (fN f + 1) : Nat) : Int)]
  rw [e2]
  have a2 : getI l2 n = ((FP.fE (fN f) : Nat) : Int) := (o2 _ (by simp)).trans a1
  have b2 : getI l2 (n + 1) = ((FP.fE (fN f + 1) : Nat) : Int) := p2 0
  have g0 := w2.g0
  have g4 := w2.g4
  have gh := w2.gh
  have gl := w2.gl
  refine (treeF_call (r := [wd (FP.mk (fN f + 1) false d) 1, wd (FP.mk (fN f + 1) false d) 0]) (by simp only [sxs, g0, g4, gh, gl, a2, b2, ph_WD_format_Make]; exact k_make (G := 0) hG hg (by first | exact hDe | (rw [i64_i64] at hDe; exact hDe) | (rw [← hDe]; simp only [i64_i64])) (nB_small ly) hDD) rfl).trans ?_
  obtain ⟨l3, e3, w3, o3, p3⟩ := w2.push [wd (FP.mk (fN f + 1) false d) 1, wd (FP.mk (fN f + 1) false d) 0]
  rw [e3]
  have a3 : getI l3 (n + 2) = wd (FP.mk (fN f + 1) false d) 1 := p3 0
  have b3 : getI l3 (n + 3) = wd (FP.mk (fN f + 1) false d) 0 := p3 1
  rw [treeF_leaf rfl]; simp only [sxs, a3, b3]
 ·have hE1 : E = 0 := by omega
  subst hE1
  refine tF (by simp only [sxs, g4]; rw [i64_nat (by omega)]; exact decide_eq_false (by omega)) ?_
  have hsub : x < 2 ^ (FP.fP (fN f) - 1) := by
   have := Nat.div_add_mod x (2 ^ (FP.fP (fN f) - 1)); rw [hE, Nat.mul_zero, Nat.zero_add] at this; omega
  have hxy : y0 = x := by rw [← hr]; exact Nat.mod_eq_of_lt hsub
  obtain ⟨q1, q2, ZC, z1, z2, z3⟩ := wide_low hf3 hx0 hsub hd hv
  rw [← hxy, ← hy] at q1 z2
  have lA1 : FP.oneC (fN f + 1) + y < FP.inf (fN f + 1) := by rw [hy]; exact low_one hf3 (by rw [hxy]; exact hsub) rfl rfl
  obtain ⟨AA, hAA⟩ : ∃ A, makeN (fN f + 1) false ((FP.fE (fN f + 1) : Nat) : Int) y = A := ⟨_, rfl⟩
  have lAA : AA < W128 := by rw [← hAA]; exact makeN_W hg _ _ _
  have lZZ : FP.mk (fN f + 1) false ZC < W128 := mk_W hg false (Nat.lt_trans z1 (inf_lt hg))
  obtain ⟨KK, hKK⟩ : ∃ K, makeN (fN f + 1) false (1 - (FP.fE (fN f) : Int) + (FP.fE (fN f + 1) : Int)) 0 = K := ⟨_, rfl⟩
  have lKK : KK < W128 := by rw [← hKK]; exact makeN_W hg _ _ _
  have hKe : i64 (i64 (i64 (1 - i64 (FP.fE (fN f) : Int)) + i64 (FP.fE (fN f + 1) : Int))) = 1 - (FP.fE (fN f) : Int) + (FP.fE (fN f + 1) : Int) := by rw [i64_fE, i64_fE, i64_i64, i64_id (show -9223372036854775808 ≤ 1 - (FP.fE (fN f) : Int) by omega) (by omega), i64_id (by omega) (by omega)]
  have nnO : ¬ 4 ≤ clsF (fN f + 1) (FP.mk (fN f + 1) false (FP.oneC (fN f + 1))) := by have := (mk_fin hg false (FP.oneC_fin hg)).1; omega
  have hT : turnN (fN f + 1) (FP.mk (fN f + 1) false (FP.oneC (fN f + 1))) = FP.mk (fN f + 1) true (FP.oneC (fN f + 1)) := turn_mk hg false (Nat.lt_trans (FP.oneC_fin hg) (inf_lt hg))
  have kA := z2
  rw [← q1, hAA] at kA
  have kM := z3
  rw [hKK] at kM
  generalize hZZ : FP.mk (fN f + 1) false ZC = ZV at *
  refine (treeF_call (r := [((FP.fE (fN f + 1) : Nat) : Int)]) (by simp only [sxs, g0, ph_WD_format_Emax]; exact k_format_Emax hG) rfl).trans ?_
  obtain ⟨l1, e1, w1, o1, p1⟩ := w.push [((FP.fE (fN f + 1) : Nat) : Int)]
  rw [e1]
  have a1 : getI l1 n = ((FP.fE (fN f + 1) : Nat) : Int) := p1 0
  have g0 := w1.g0
  have gh := w1.gh
  have gl := w1.gl
  refine (treeF_call (r := [wd AA 1, wd AA 0]) (by simp only [sxs, g0, gh, gl, a1, ph_WD_format_Make]; exact k_make (G := 0) hG hg (by first | rw [i64_i64, i64_fE] | rw [i64_fE]) (nB_small ly) hAA) rfl).trans ?_
  obtain ⟨l2, e2, w2, o2, p2⟩ := w1.push [wd AA 1, wd AA 0]
  rw [e2]
  have a2 : getI l2 (n + 1) = wd AA 1 := p2 0
  have b2 : getI l2 (n + 2) = wd AA 0 := p2 1
  have g0 := w2.g0
  have g8 := w2.g8
  have g9 := w2.g9
  refine (treeF_call (r := [wd ZV 1, wd ZV 0, 0]) (by simp only [sxs, g0, g8, g9, a2, b2, ph_WD_addsub_Sub]; exact (k_addsub_Sub hG hg ((md_lit 0 (by decide)).1) ((md_lit 0 (by decide)).2) (show iNz 0 = false from rfl) (nB_small lAA) (nB_small lone) nnO).trans (by rw [hT, kA]; rfl)) rfl).trans ?_
  obtain ⟨l3, e3, w3, o3, p3⟩ := w2.push [wd ZV 1, wd ZV 0, 0]
  rw [e3]
  have a3 : getI l3 (n + 3) = wd ZV 1 := p3 0
  have b3 : getI l3 (n + 4) = wd ZV 0 := p3 1
  have g0 := w3.g0
  refine (treeF_call (r := [((FP.fE (fN f) : Nat) : Int)]) (by simp only [sxs, g0, ph_WD_format_Emax]; exact k_format_Emax (fN_u f)) rfl).trans ?_
  obtain ⟨l4, e4, w4, o4, p4⟩ := w3.push [((FP.fE (fN f) : Nat) : Int)]
  rw [e4]
  have a4 : getI l4 (n + 3) = wd ZV 1 := (o4 _ (by simp only [List.length_cons, List.length_nil]; omega)).trans a3
  have b4 : getI l4 (n + 4) = wd ZV 0 := (o4 _ (by simp only [List.length_cons, List.length_nil]; omega)).trans b3
  have c4 : getI l4 (n + 6) = ((FP.fE (fN f) : Nat) : Int) := p4 0
  have g0 := w4.g0
  refine (treeF_call (r := [((FP.fE (fN f + 1) : Nat) : Int)]) (by simp only [sxs, g0, ph_WD_format_Emax]; exact k_format_Emax hG) rfl).trans ?_
  obtain ⟨l5, e5, w5, o5, p5⟩ := w4.push [((FP.fE (fN f + 1) : Nat) : Int)]
  rw [e5]
  have a5 : getI l5 (n + 3) = wd ZV 1 := (o5 _ (by simp only [List.length_cons, List.length_nil]; omega)).trans a4
  have b5 : getI l5 (n + 4) = wd ZV 0 := (o5 _ (by simp only [List.length_cons, List.length_nil]; omega)).trans b4
  have c5 : getI l5 (n + 6) = ((FP.fE (fN f) : Nat) : Int) := (o5 _ (by simp only [List.length_cons, List.length_nil]; omega)).trans c4
  have d5 : getI l5 (n + 7) = ((FP.fE (fN f + 1) : Nat) : Int) := p5 0
  have g0 := w5.g0
  refine (treeF_call (r := [wd KK 1, wd KK 0]) (by simp only [sxs, g0, c5, d5, ph_WD_format_Make]; exact k_make (G := 0) hG hg (by first | exact hKe | (rw [← hKe]; simp only [i64_i64])) nB_00 hKK) rfl).trans ?_
  obtain ⟨l6, e6, w6, o6, p6⟩ := w5.push [wd KK 1, wd KK 0]
  rw [e6]
  have a6 : getI l6 (n + 3) = wd ZV 1 := (o6 _ (by simp only [List.length_cons, List.length_nil]; omega)).trans a5
  have b6 : getI l6 (n + 4) = wd ZV 0 := (o6 _ (by simp only [List.length_cons, List.length_nil]; omega)).trans b5
  have c6 : getI l6 (n + 8) = wd KK 1 := p6 0
  have d6 : getI l6 (n + 9) = wd KK 0 := p6 1
  have g0 := w6.g0
  refine (treeF_call (r := [wd (FP.mk (fN f + 1) false d) 1, wd (FP.mk (fN f + 1) false d) 0, 0]) (by simp only [sxs, g0, a6, b6, c6, d6, ph_WD_mul_Mul]; exact (k_mul_Mul hG hg ((md_lit 0 (by decide)).1) ((md_lit 0 (by decide)).2) (show iNz 0 = false from rfl) (nB_small lZZ) (nB_small lKK)).trans (by rw [kM]; rfl)) rfl).trans ?_
  obtain ⟨l7, e7, w7, o7, p7⟩ := w6.push [wd (FP.mk (fN f + 1) false d) 1, wd (FP.mk (fN f + 1) false d) 0, 0]
  rw [e7]
  have a7 : getI l7 (n + 10) = wd (FP.mk (fN f + 1) false d) 1 := p7 0
  have b7 : getI l7 (n + 11) = wd (FP.mk (fN f + 1) false d) 0 := p7 1
  rw [treeF_leaf rfl]; simp only [sxs, a7, b7]
theorem loop_ok {f : Int} {x E y0 d : Nat} (h2 : fN f ≤ 2) (hx0 : 0 < x) (hx : x < FP.inf (fN f)) (hE : x / 2 ^ (FP.fP (fN f) - 1) = E) (hr : x % 2 ^ (FP.fP (fN f) - 1) = y0) (hd : d < FP.inf (fN f + 1)) (hv : FP.val (fN f) x * 2 ^ FP.fU (fN f + 1) = FP.val (fN f + 1) d * 2 ^ FP.fU (fN f)) :
  ∀ (k i n h y : Nat) (l : List Int), EnvW f E l n h y → y = y0 * 2 ^ i → FP.fP (fN f) + i ≤ FP.fP (fN f + 1) → FP.fP (fN f + 1) < FP.fP (fN f) + i + k →
   treeF (phiA LWD NZ ZZ) c_law22_widened (loopW k i n h) l = [wd (FP.mk (fN f + 1) false d) 1, wd (FP.mk (fN f + 1) false d) 0] := by
 have hf : fN f < 4 := by omega
 have hg : fN f + 1 < 4 := by omega
 have hG : fN (u8 (u8 f + 1)) = fN f + 1 := fN_succ3 h2
 obtain ⟨n1, n2, n3, n4, n5, n6, n7, n8, n9⟩ := FP.fmtN hf
 obtain ⟨m1, m2, m3, m4, m5, m6, m7, m8, m9⟩ := FP.fmtN hg
 have hrl : y0 < 2 ^ (FP.fP (fN f) - 1) := by rw [← hr]; exact Nat.mod_lt x (FP.two_pow_pos (FP.fP (fN f) - 1))
 have lim : ∀ i, FP.fP (fN f) + i ≤ FP.fP (fN f + 1) + 1 → y0 * 2 ^ i < W128 := fun i hi => by
  have h1 : y0 * 2 ^ i < 2 ^ (FP.fP (fN f) - 1) * 2 ^ i := Nat.mul_lt_mul_of_pos_right hrl (FP.two_pow_pos i)
  rw [← Nat.pow_add] at h1
  exact Nat.lt_of_lt_of_le h1 (pow_le128' (by omega))
 intro k
 induction k with
 | zero => intro i n h y l w hy hi hk; omega
 | succ k ih =>
  intro i n h y l w hy hi hk
  rw [loopW]
  have g0 := w.g0
  refine (treeF_call (r := [((FP.fP (fN f + 1) : Nat) : Int)]) (by simp only [sxs, g0, ph_WD_format_Prec]; exact k_format_Prec hG) rfl).trans ?_
  obtain ⟨l1, e1, w1, o1, p1⟩ := w.push [((FP.fP (fN f + 1) : Nat) : Int)]
  rw [e1]
  have a1 : getI l1 n = ((FP.fP (fN f + 1) : Nat) : Int) := p1 0
  have g0 := w1.g0
  refine (treeF_call (r := [((FP.fP (fN f) : Nat) : Int)]) (by simp only [sxs, g0, ph_WD_format_Prec]; exact k_format_Prec (fN_u f)) rfl).trans ?_
  obtain ⟨l2, e2, w2, o2, p2⟩ := w1.push [((FP.fP (fN f) : Nat) : Int)]
  rw [e2]
  have a2 : getI l2 n = ((FP.fP (fN f + 1) : Nat) : Int) := (o2 _ (by simp)).trans a1
  have b2 : getI l2 (n + 1) = ((FP.fP (fN f) : Nat) : Int) := p2 0
  have hPs : i64 (i64 ((FP.fP (fN f + 1) : Nat) : Int) - i64 ((FP.fP (fN f) : Nat) : Int)) = ((FP.fP (fN f + 1) : Nat) : Int) - ((FP.fP (fN f) : Nat) : Int) := by
   rw [i64_nat (by omega), i64_nat (by omega), i64_id (by omega) (by omega)]
  by_cases hlt : FP.fP (fN f) + i < FP.fP (fN f + 1)
  ·refine tT (by simp only [sxs, a2, b2]; rw [hPs]; exact decide_eq_true (show (i : Int) < _ by omega)) ?_
   have gh := w2.gh
   have gl := w2.gl
   have hyy : y + y = y0 * 2 ^ (i + 1) := by rw [hy, Nat.pow_succ, ← Nat.mul_assoc]; omega
   have ll := lim (i + 1) (by omega)
   rw [← hyy] at ll
   refine (treeF_call (r := [wd (y + y) 1, wd (y + y) 0, 0]) (by simp only [sxs, gh, gl, ph_WD_word_Add]; exact s_Add' y y ll) rfl).trans ?_
   obtain ⟨l3, e3, w3, o3, p3⟩ := w2.push [wd (y + y) 1, wd (y + y) 0, 0]
   rw [e3]
   have hn := w.hn
   have w4 : EnvW f E l3 (n + 5) (n + 2) (y + y) := ⟨w3.len, by omega, by omega, w3.g0, w3.g4, w3.g8, w3.g9, p3 0, p3 1⟩
   exact ih (i + 1) (n + 5) (n + 2) (y + y) l3 w4 hyy (by omega) (by omega)
  ·refine tF (by simp only [sxs, a2, b2]; rw [hPs]; exact decide_eq_false (show ¬ (i : Int) < _ by omega)) ?_
   exact tail_ok h2 hx0 hx hE hr hd hv (by rw [hy]; congr 2; omega) (by rw [hy]; exact lim i (by omega)) w2
theorem widened_any {f b1 b0 : Int} {x : Nat} (h2 : fN f ≤ 2) (hx0 : 0 < x) (hx : x < FP.inf (fN f)) (hb : nB b1 b0 = FP.mk (fN f) false x) :
  ∃ d, d < FP.inf (fN f + 1) ∧ FP.val (fN f) x * 2 ^ FP.fU (fN f + 1) = FP.val (fN f + 1) d * 2 ^ FP.fU (fN f) ∧ F_law22_widened [f, b1, b0] = [wd (FP.mk (fN f + 1) false d) 1, wd (FP.mk (fN f + 1) false d) 0] := by
 have hf : fN f < 4 := by omega
 have hg : fN f + 1 < 4 := by omega
 have hG : fN (u8 (u8 f + 1)) = fN f + 1 := fN_succ3 h2
 obtain ⟨d, hd, hv⟩ := FP.fits_wider (f := fN f) (t := fN f + 1) (by omega) hg hx
 refine ⟨d, hd, hv, ?_⟩
 have hl : x < 2 ^ (FP.fW (fN f) - 1) := Nat.lt_trans hx (inf_lt hf)
 have q1 : FP.sgn (fN f) (FP.mk (fN f) false x) = false := FP.sgn_mk _ hl
 have q2 : FP.cod (fN f) (FP.mk (fN f) false x) = x := FP.cod_mk _ hl
 have one0 := makeN_one hg
 obtain ⟨E, hE⟩ : ∃ E, x / 2 ^ (FP.fP (fN f) - 1) = E := ⟨_, rfl⟩
 obtain ⟨y0, hr⟩ : ∃ r, x % 2 ^ (FP.fP (fN f) - 1) = r := ⟨_, rfl⟩
 rw [F_law22_widened, t_law22_widened]
 refine (treeF_call (r := [b2i false, ((E : Nat) : Int), wd y0 1, wd y0 0]) (by simp only [sxs, ph_WD_format_Split]; exact k_format_Split (fN_u f) hf ((nB_u _ _).trans hb) q1 q2 hE hr) rfl).trans ?_
 refine (treeF_call (r := [((FP.fE (fN f + 1) : Nat) : Int)]) (by simp only [sxs, ph_WD_format_Emax]; exact k_format_Emax hG) rfl).trans ?_
 refine (treeF_call (r := [wd (FP.mk (fN f + 1) false (FP.oneC (fN f + 1))) 1, wd (FP.mk (fN f + 1) false (FP.oneC (fN f + 1))) 0]) (by simp only [sxs, ph_WD_format_Make]; exact k_make (G := 0) hG hg (by first | rw [i64_i64, i64_fE] | rw [i64_fE]) nB_00 (by rw [show false = iNz 0 by decide]; exact one0)) rfl).trans ?_
 refine loop_ok h2 hx0 hx hE hr hd hv 61 0 10 5 y0 _ ⟨rfl, by omega, by omega, rfl, rfl, rfl, rfl, rfl, rfl⟩ (by rw [Nat.pow_zero, Nat.mul_one]) ?_ ?_
 ·rcases (show fN f = 0 ∨ fN f = 1 ∨ fN f = 2 by omega) with h | h | h <;> rw [h] <;> decide
 ·rcases (show fN f = 0 ∨ fN f = 1 ∨ fN f = 2 by omega) with h | h | h <;> rw [h] <;> decide
end Go.Proofs.YtkfbdlidigmfbaaGreatDoor
