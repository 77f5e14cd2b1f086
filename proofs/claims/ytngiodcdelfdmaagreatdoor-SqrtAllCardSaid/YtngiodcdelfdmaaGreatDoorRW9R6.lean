import Derived.Test.YtngiodcdelfdmaaGreatDoorRW8R6
namespace Go.Proofs.YtngiodcdelfdmaaGreatDoor
set_option linter.unusedVariables false
open Go.RowKit Go.Shelf
attribute [local go_sem] Oper.semAt_some
theorem dlen_pow {x k n : Nat} (h : x < 2 ^ k) (hk : k ≤ 32 * n) : dlenN x ≤ n := by
 rw [← dlenN_le]
 refine Nat.lt_of_lt_of_le h ?_
 rw [B32_pow, ← Nat.pow_mul]
 exact Nat.pow_le_pow_right (by decide) hk
theorem root_half {r a L : Nat} (h : r * r ≤ a) (ha : a < 2 ^ L) : r < 2 ^ (L / 2 + 1) := by
 apply Nat.lt_of_not_le
 intro h2
 have h3 := Nat.mul_le_mul h2 h2
 rw [← Nat.pow_add] at h3
 have h4 : 2 ^ L ≤ 2 ^ (L / 2 + 1 + (L / 2 + 1)) := Nat.pow_le_pow_right (by decide) (by omega)
 omega
set_option maxRecDepth 100000 in
set_option maxHeartbeats 4000000 in
theorem Root_c (w : World) (va : Value) (a : Nat) (ha : dlenN a ≤ 33554432) (hA : RdX w va (dlenN a) a) :
  Calls Tryz.prog 86 #[va] w (NRet w [va] (rootX a)) := by
 have hLen := fun W (h : RdX W va (dlenN a) a) => Len_c W va a (by omega) h
 have hL := lenX_le a
 have hlt := lenX_lt a
 have hroot : rtG a (lenX a / 2 + 1) 0 = rootX a := rfl
 have hstep : ∀ k r, rtG a (k + 1) r = rtG a k (if (r + 2 ^ k) * (r + 2 ^ k) ≤ a then r + 2 ^ k else r) := fun k r => rfl
 have hzero : ∀ r, rtG a 0 r = r := fun r => rfl
 go_enter Tryz.func86, Tryz.ntmps86
 go_wp2_with (go_at_call 124; with_reducible refine (hLen _ hA).mono ?_; rintro e w' ⟨rfl, rfl⟩)
 go_loopw [3, 4] (fun r i wr => ∃ j ρ : Nat, j ≤ lenX a / 2 + 1 ∧ i = .int .i64 ((j : Int) - 1) ∧ rtG a j ρ = rootX a ∧ ρ * ρ ≤ a ∧ RdX wr r (dlenN ρ) ρ ∧ (∀ b, vblock r = some b → w.heap.size ≤ b) ∧ Bel w wr)
  (fun _ i _ => (intOf i + 1).toNat)
 case atStart => exact ⟨lenX a / 2 + 1, 0, Nat.le_refl _, (by congr 1; omega), hroot, Nat.zero_le _, RdX.nil _ 0, (fun b h => by cases h), Bel.refl w⟩
 case round =>
  obtain ⟨j, ρ, hj, rfl, hg, hq, hr, hrb, hB⟩ := hrel
  have hsz := hB.size
  rcases Nat.eq_zero_or_pos j with rfl | h0
  ·rw [hzero] at hg
   rw [hg] at hr
   go_wp2_with fail
   go_ret
   exact ⟨_, rfl, hr, hrb, hB⟩
  ·obtain ⟨i, rfl⟩ : ∃ i, j = i + 1 := ⟨j - 1, by omega⟩
   have hi30 : i ≤ 1073741824 := by omega
   rw [show ((i + 1 : Nat) : Int) - 1 = (i : Int) by omega]
   have q0 : (i : Int) ≥ 0 := by omega
   have hAr := hA.bel hB
   have hSh : ∀ W v, RdX W v (dlenN 1) 1 → Calls Tryz.prog 80 #[v, .int .i64 (i : Int)] W (NRet W [v] (2 ^ i)) := fun W v h => by
    have := Shl_c W v 1 i hi30 (by rw [one_dlen]; omega) h
    rwa [Nat.one_mul] at this
   have sρ := root_half hq hlt
   have hle2 : 2 ^ i ≤ 2 ^ (lenX a / 2) := Nat.pow_le_pow_right (by decide) (by omega)
   have sp : 2 ^ i < 2 ^ (lenX a / 2 + 1) := by rw [Nat.pow_succ]; have := Nat.pow_pos (n := lenX a / 2) (show 0 < 2 by decide); omega
   have sx : ρ + 2 ^ i < 2 ^ (lenX a / 2 + 2) := by rw [Nat.pow_succ]; omega
   have sxx : (ρ + 2 ^ i) * (ρ + 2 ^ i) < 2 ^ (lenX a / 2 + 2 + (lenX a / 2 + 2)) := by rw [Nat.pow_add]; exact Nat.mul_lt_mul'' sx sx
   have hdρ : dlenN ρ ≤ 34000000 := Nat.le_trans (dlen_pow (n := dlenN a + 1) sρ (by omega)) (by omega)
   have hdp : dlenN (2 ^ i) ≤ 34000000 := Nat.le_trans (dlen_pow (n := dlenN a + 1) sp (by omega)) (by omega)
   have hdx : dlenN (ρ + 2 ^ i) ≤ 34000000 := Nat.le_trans (dlen_pow (n := dlenN a + 1) sx (by omega)) (by omega)
   have hdxx : dlenN ((ρ + 2 ^ i) * (ρ + 2 ^ i)) ≤ 34000000 := Nat.le_trans (dlen_pow (n := dlenN a + 1) sxx (by omega)) (by omega)
   have hg := (hstep i ρ).symm.trans hg
   clear sρ hle2 sp sx sxx
   generalize 2 ^ i = P at *
   by_cases hle : (ρ + P) * (ρ + P) ≤ a
   ·rw [if_pos hle] at hg
    have hc : cmpI ((ρ + P) * (ρ + P)) a ≤ 0 := by unfold cmpI; split <;> (try split) <;> omega
    go_wp2_with (first | (go_at_call 120; (with_reducible refine (Of1_c wr).mono ?_); rintro e w1 ⟨r1, rfl, hr1, hb1, hB1⟩; have hs1 := hB1.size; have hρ1 := hr.bel hB1; have hA1 := hAr.bel hB1) | (go_at_call 80; (with_reducible refine (hSh w1 r1 hr1).mono ?_); rintro e w2 ⟨r2, rfl, hr2, hb2, hB2⟩; have hs2 := hB2.size; have hρ2 := hρ1.bel hB2; have hA2 := hA1.bel hB2) | (go_at_call 122; (with_reducible refine (Add_c w2 u3 r2 ρ (P) hdρ hdp hρ2 hr2).mono ?_); rintro e w3 ⟨r3, rfl, hr3, hb3, hB3⟩; have hs3 := hB3.size; have hA3 := hA2.bel hB3) | (go_at_call 72; (with_reducible refine (Mul_c w3 r3 r3 (ρ + P) (ρ + P) hdx hdx hr3 hr3).mono ?_); rintro e w4 ⟨r4, rfl, hr4, hb4, hB4⟩; have hs4 := hB4.size; have hA4 := hA3.bel hB4; have hx4 := hr3.bel hB4) | (go_at_call 51; (with_reducible refine (Cmp_c w4 r4 _ ((ρ + P) * (ρ + P)) a hdxx (by omega) hr4 hA4).mono ?_); rintro e w5 ⟨rfl, hB5⟩; have hs5 := hB5.size; have hx5 := hx4.bel hB5))
    go_roundw
    case rel => exact ⟨i, _, by omega, by go_num, hg, hle, hx5, (fun b h => by have := hb3 b h; omega), (((((hB.trans (hB1.mono (by omega))).trans (hB2.mono (by omega))).trans (hB3.mono (by omega))).trans (hB4.mono (by omega))).trans (hB5.mono (by omega)))⟩
    case measure => simp [intOf]
   ·rw [if_neg hle] at hg
    have hc : ¬ (cmpI ((ρ + P) * (ρ + P)) a ≤ 0) := by rw [cmpI_gt (by omega)]; omega
    go_wp2_with (first | (go_at_call 120; (with_reducible refine (Of1_c wr).mono ?_); rintro e w1 ⟨r1, rfl, hr1, hb1, hB1⟩; have hs1 := hB1.size; have hρ1 := hr.bel hB1; have hA1 := hAr.bel hB1) | (go_at_call 80; (with_reducible refine (hSh w1 r1 hr1).mono ?_); rintro e w2 ⟨r2, rfl, hr2, hb2, hB2⟩; have hs2 := hB2.size; have hρ2 := hρ1.bel hB2; have hA2 := hA1.bel hB2) | (go_at_call 122; (with_reducible refine (Add_c w2 u3 r2 ρ (P) hdρ hdp hρ2 hr2).mono ?_); rintro e w3 ⟨r3, rfl, hr3, hb3, hB3⟩; have hs3 := hB3.size; have hA3 := hA2.bel hB3) | (go_at_call 72; (with_reducible refine (Mul_c w3 r3 r3 (ρ + P) (ρ + P) hdx hdx hr3 hr3).mono ?_); rintro e w4 ⟨r4, rfl, hr4, hb4, hB4⟩; have hs4 := hB4.size; have hA4 := hA3.bel hB4; have hx4 := hr3.bel hB4) | (go_at_call 51; (with_reducible refine (Cmp_c w4 r4 _ ((ρ + P) * (ρ + P)) a hdxx (by omega) hr4 hA4).mono ?_); rintro e w5 ⟨rfl, hB5⟩; have hs5 := hB5.size; have hx5 := hx4.bel hB5))
    go_roundw
    case rel => exact ⟨i, ρ, by omega, by go_num, hg, hq, ((((hρ2.bel hB3).bel hB4).bel hB5)), hrb, (((((hB.trans (hB1.mono (by omega))).trans (hB2.mono (by omega))).trans (hB3.mono (by omega))).trans (hB4.mono (by omega))).trans (hB5.mono (by omega)))⟩
    case measure => simp [intOf]
end Go.Proofs.YtngiodcdelfdmaaGreatDoor
