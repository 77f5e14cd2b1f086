import Derived.Test.YtkfbdlidigmfbaaGreatDoorRM1R7
namespace Go.Proofs.YtkfbdlidigmfbaaGreatDoor
set_option linter.unusedVariables false
open Go.RowKit Go.Shelf
attribute [local go_sem] Oper.semAt_some
def lowI (k : Nat) : Int := bits .and .i64 (k : Int) (-(k : Int))
def lowOK : Bool := (List.range 2001).all fun k => k == 0 || (List.range 11).any fun t => lowI k == 2 ^ t && Nat.ble (2 ^ t) k
theorem lowOK_true : lowOK = true := by kernel_rfl
theorem lowI_pow {k : Nat} (h0 : 0 < k) (h1 : k ≤ 2000) : ∃ t, t ≤ 10 ∧ lowI k = ((2 ^ t : Nat) : Int) ∧ 2 ^ t ≤ k := by
 have h := List.all_eq_true.1 lowOK_true k (List.mem_range.2 (by omega))
 rw [Bool.or_eq_true] at h
 rcases h with h | h
 ·rw [beq_iff_eq] at h; omega
 ·obtain ⟨t, ht, he⟩ := List.any_eq_true.1 h
  rw [Bool.and_eq_true, beq_iff_eq, Nat.ble_eq] at he
  refine ⟨t, by have := List.mem_range.1 ht; omega, ?_, he.2⟩
  rw [he.1, Int.natCast_pow]; rfl
def orOK : Bool := (List.range 256).all fun a => (List.range 256).all fun b => bits .or .u8 (a : Int) (b : Int) == ((a ||| b : Nat) : Int) && Nat.blt (a ||| b) 256 && (!(a ||| b == 0) || (a == 0 && b == 0))
theorem orOK_true : orOK = true := by kernel_rfl
theorem or_u8 {a b : Nat} (ha : a < 256) (hb : b < 256) : ∃ c : Nat, bits .or .u8 (a : Int) (b : Int) = (c : Int) ∧ c < 256 ∧ (c = 0 → a = 0 ∧ b = 0) := by
 have h := List.all_eq_true.1 (List.all_eq_true.1 orOK_true a (List.mem_range.2 ha)) b (List.mem_range.2 hb)
 simp only [Bool.and_eq_true, beq_iff_eq, Nat.blt_eq, Bool.or_eq_true, Bool.not_eq_true', beq_eq_false_iff_ne] at h
 exact ⟨a ||| b, h.1.1, h.1.2, fun h0 => h.2.resolve_left (fun hn => hn h0)⟩
set_option maxRecDepth 100000 in
set_option maxHeartbeats 4000000 in
theorem RemMultiple_c {f : Int} (hu : u8 f = f) {b : Nat} (hb : b < W128) {q : Int} (hq0 : 0 ≤ q) (hq1 : q < 65536) (w : World) (hG : Gl gG w) :
  Calls Tryz.prog 4 #[.int .u8 f, vB b, .int .u16 q] w fun e w' => e = .returned (.bool true) ∧ Bel w w' := by
 by_cases hf : fN f < 4
 ·have hf4 : f < 4 := by
   unfold fN at hf; rw [hu] at hf
   have := u8_rng f; rw [hu] at this; omega
  have h1 := fun W h => rm_class hu hb W h
  simp only [if_pos hf] at h1
  have h2 := fun W h => rm_known hu W h
  rw [decide_eq_true hf4] at h2
  by_cases hc : clsF (fN f) b = 1 ∨ clsF (fN f) b = 2
  ·have hnul := fun W h => rm_nought hu hf false W h
   have lN : FP.mk (fN f) false 0 < W128 := mk_W hf false (FP.two_pow_pos _)
   obtain ⟨cc, hcc⟩ : ∃ cc : Int, ((clsF (fN f) b : Nat) : Int) = cc := ⟨_, rfl⟩
   have hc3 : cc = 1 ∨ cc = 2 := by omega
   obtain ⟨s0, hs0⟩ : ∃ s0, FP.sgn (fN f) b = s0 := ⟨_, rfl⟩
   rw [hcc, hs0] at h1
   obtain ⟨T, hT⟩ : ∃ T : Nat, T = 1 + q.toNat % 2000 := ⟨_, rfl⟩
   have hTi : 1 + q.tmod 2000 = (T : Int) := by rw [Int.tmod_eq_emod_of_nonneg hq0]; omega
   rcases hc3 with rfl | rfl
   all_goals
    go_enter Tryz.func4, Tryz.ntmps4
    go_wp2_with (first | (go_at_call 6; (with_reducible refine (h1 _ (hG.bel ((Bel.refl w).alloc _))).mono ?_); rintro e w1 ⟨rfl, hB1⟩; have hB1' := ((Bel.refl w).alloc _).trans hB1) | (go_at_call 13; (with_reducible refine (h2 _ (hG.bel hB1')).mono ?_); rintro e w2 ⟨rfl, hB2⟩; have hB2' := hB1'.trans hB2) | (go_at_call 15; (with_reducible refine (hnul _ (hG.bel hB2')).mono ?_); rintro e w3 ⟨rfl, hB3⟩; have hB3' := hB2'.trans hB3))
    have c4 : (w3.alloc (Obj.cells #[Value.int IntKind.u64 (wd (FP.mk (fN f) false 0) 1), Value.int IntKind.u64 (wd (FP.mk (fN f) false 0) 0), Value.int IntKind.u8 0] 36)).heap[w.heap.size]? = some (.cells #[.int .u64 (wd b 1), .int .u64 (wd b 0)] 28 (0, 0)) := heap_alloc (heap_below (heap_below (heap_below (heap_new w _) hB1) hB2) hB3) _
    have c10 : (w3.alloc (Obj.cells #[Value.int IntKind.u64 (wd (FP.mk (fN f) false 0) 1), Value.int IntKind.u64 (wd (FP.mk (fN f) false 0) 0), Value.int IntKind.u8 0] 36)).heap[w3.heap.size]? = some (.cells #[.int .u64 (wd (FP.mk (fN f) false 0) 1), .int .u64 (wd (FP.mk (fN f) false 0) 0), .int .u8 0] 36 (0, 0)) := heap_new _ _
    have hB4 := hB3'.alloc (Obj.cells #[Value.int IntKind.u64 (wd (FP.mk (fN f) false 0) 1), Value.int IntKind.u64 (wd (FP.mk (fN f) false 0) 0), Value.int IntKind.u8 0] 36)
    have s10 : w.heap.size < w3.heap.size := heap_lt (heap_below (heap_below (heap_below (heap_new w _) hB1) hB2) hB3)
    rw [show 1 + q % 2000 = (T : Int) by omega]
    have hT1 : 1 ≤ T := by omega
    have hT2 : T ≤ 2000 := by have := Nat.mod_lt q.toNat (show 0 < 2000 by decide); omega
    clear hT hTi
    generalize w3.heap.size = B10 at *
    generalize w3.alloc (Obj.cells #[Value.int IntKind.u64 (wd (FP.mk (fN f) false 0) 1), Value.int IntKind.u64 (wd (FP.mk (fN f) false 0) 0), Value.int IntKind.u8 0] 36) = w4 at *
    go_loopw [9, 11] (fun k fl wr => ∃ D a g F : Nat, D ≤ T ∧ k = .int .i64 ((T : Int) - (D : Int)) ∧ fl = .int .u8 (F : Int) ∧ F < 256 ∧ g < 256 ∧ a < W128 ∧ Bel w wr ∧
      wr.heap[w.heap.size]? = some (.cells #[.int .u64 (wd b 1), .int .u64 (wd b 0)] 28 (0, 0)) ∧ wr.heap[B10]? = some (.cells #[.int .u64 (wd a 1), .int .u64 (wd a 0), .int .u8 (g : Int)] 36 (0, 0)) ∧ (F = 0 → Acc (fN f) b D a))
     (fun k _ _ => (intOf k).toNat)
    case atStart => exact ⟨0, FP.mk (fN f) false 0, 0, 0, Nat.zero_le _, (by congr 1), rfl, by omega, by omega, lN, hB4, c4, c10, fun _ => acc_nil _ _⟩
    case round =>
     obtain ⟨D, a, g, F, hD, rfl, rfl, hF, hg, ha, hBr, d4, d10, hA⟩ := hrel
     have e40 := heap_cell d4 0 rfl
     have e41 := heap_cell d4 1 rfl
     have ea0 := heap_cell d10 0 rfl
     have ea1 := heap_cell d10 1 rfl
     have ea2 := heap_cell d10 2 rfl
     by_cases hDT : D = T
     ·subst hDT
      have z0 : ¬ ((D : Int) - (D : Int) > 0) := by omega
      by_cases hF0 : F = 0
      ·subst hF0
       have hAcc := hA rfl
       have ha1 := fun W h => rm_class hu ha W h
       simp only [if_pos hf] at ha1
       obtain ⟨ca, hca⟩ : ∃ ca : Int, ((clsF (fN f) a : Nat) : Int) = ca := ⟨_, rfl⟩
       obtain ⟨sa, hsa⟩ : ∃ sa, FP.sgn (fN f) a = sa := ⟨_, rfl⟩
       have hrm := acc_rem hf hc hAcc (by omega)
       rw [hca, hsa] at ha1
       rw [hsa] at hrm
       have hre := fun W h => rm_rem hu hf ha hb hrm W h
       have hno := fun W h => rm_nought hu hf sa W h
       unfold vR at hre
       go_wp2_with (first | (go_at_call 6; (with_reducible refine (ha1 _ (hG.bel hBr)).mono ?_); rintro e w5 ⟨rfl, hB5⟩; have hB5' := hBr.trans hB5; have d4' := heap_below d4 hB5; have d10' := heap_below d10 hB5; have x0 := heap_cell d4' 0 rfl; have x1 := heap_cell d4' 1 rfl; have y0 := heap_cell d10' 0 rfl; have y1 := heap_cell d10' 1 rfl) | (go_at_call 20; (with_reducible refine (hre _ (hG.bel hB5')).mono ?_); rintro e w6 ⟨rfl, hB6⟩; have hB6' := hB5'.trans hB6) | (go_at_call 15; (with_reducible refine (hno _ (hG.bel hB6')).mono ?_); rintro e w7 ⟨rfl, hB7⟩; have hB7' := hB6'.trans hB7) | (go_at_call 14; (with_reducible refine (rm_goes _ (hG.bel hB7')).mono ?_); rintro e w8 ⟨rfl, hB8⟩; have hB8' := hB7'.trans hB8))
       go_ret
       exact ⟨rfl, hB8'⟩
      ·have f0 : ¬ ((F : Int) = 0) := by omega
       have f1 : (((F : Int)) != 0) = true := bne_iff_ne.2 f0
       go_wp2_with (go_at_call 14; (with_reducible refine (rm_goes _ (hG.bel hBr)).mono ?_); rintro e w5 ⟨rfl, hB5⟩)
       go_ret
       exact ⟨rfl, hBr.trans hB5⟩
     ·obtain ⟨κ, hκ⟩ : ∃ κ : Nat, κ + D = T := ⟨T - D, by omega⟩
      rw [show (T : Int) - (D : Int) = (κ : Int) by omega]
      have κ0 : (κ : Int) > 0 := by omega
      have κ1 : κ ≤ 2000 := by omega
      obtain ⟨t, ht, hlow, hlt⟩ := lowI_pow (show 0 < κ by omega) κ1
      unfold lowI at hlow
      obtain ⟨L, hL⟩ : ∃ L : Nat, 2 ^ t = L := ⟨_, rfl⟩
      rw [hL] at hlow hlt
      have hem := fun W h => rm_emax hu W h
      have hon := fun W h => rm_one hu hf W h
      have lp : ∀ s, s ≤ 12 → pwB (fN f) s < W128 := fun s hs => mk_W hf false (Nat.lt_trans (pwB_val hf hs).1 (inf_lt hf))
      go_wp2_with (first | (go_at_call 17; (with_reducible refine (hem _ (hG.bel hBr)).mono ?_); rintro e w5 ⟨rfl, hB5⟩; have hB5' := hBr.trans hB5) | (go_at_call 16; (with_reducible refine (hon _ (hG.bel hB5')).mono ?_); rintro e w6 ⟨rfl, hB6⟩; have hB6' := hB5'.trans hB6))
      try rw [hlow]
      have p4 := heap_alloc (heap_below (heap_below d4 hB5) hB6) (Obj.cells #[Value.int IntKind.u64 (wd (pwB (fN f) 0) 1), Value.int IntKind.u64 (wd (pwB (fN f) 0) 0)] 28)
      have p10 := heap_alloc (heap_below (heap_below d10 hB5) hB6) (Obj.cells #[Value.int IntKind.u64 (wd (pwB (fN f) 0) 1), Value.int IntKind.u64 (wd (pwB (fN f) 0) 0)] 28)
      have p12 := heap_new w6 (Obj.cells #[Value.int IntKind.u64 (wd (pwB (fN f) 0) 1), Value.int IntKind.u64 (wd (pwB (fN f) 0) 0)] 28)
      have hB7 := hB6'.alloc (Obj.cells #[Value.int IntKind.u64 (wd (pwB (fN f) 0) 1), Value.int IntKind.u64 (wd (pwB (fN f) 0) 0)] 28)
      have s12 : B10 < w6.heap.size := heap_lt (heap_below (heap_below d10 hB5) hB6)
      generalize w6.heap.size = B12 at *
      generalize w6.alloc (Obj.cells #[Value.int IntKind.u64 (wd (pwB (fN f) 0) 1), Value.int IntKind.u64 (wd (pwB (fN f) 0) 0)] 28) = w7 at *
      go_loopw [14] (fun i wq => ∃ s P : Nat, s ≤ t ∧ P = 2 ^ (t - s) ∧ i = .int .i64 (P : Int) ∧ Bel w wq ∧
        wq.heap[w.heap.size]? = some (.cells #[.int .u64 (wd b 1), .int .u64 (wd b 0)] 28 (0, 0)) ∧ wq.heap[B10]? = some (.cells #[.int .u64 (wd a 1), .int .u64 (wd a 0), .int .u8 (g : Int)] 36 (0, 0)) ∧
        wq.heap[B12]? = some (.cells #[.int .u64 (wd (pwB (fN f) s) 1), .int .u64 (wd (pwB (fN f) s) 0)] 28 (0, 0)))
       (fun i _ => (intOf i).toNat)
      case atStart => exact ⟨0, L, Nat.zero_le _, by rw [Nat.sub_zero, hL], rfl, hB7, p4, p10, p12⟩
      case round =>
       obtain ⟨s, P, hs, hP, rfl, hBq, r4, r10, r12⟩ := hrel
       have i0 := heap_cell r12 0 rfl
       have i1 := heap_cell r12 1 rfl
       have j0 := heap_cell r4 0 rfl
       have j1 := heap_cell r4 1 rfl
       have l0 := heap_cell r10 0 rfl
       have l1 := heap_cell r10 1 rfl
       by_cases hst : s = t
       ·subst hst
        have hP1 : P = 1 := by rw [hP, Nat.sub_self, Nat.pow_zero]
        clear hP
        subst hP1
        have g1 : ¬ (((1 : Nat) : Int) > 1) := by omega
        have lps := lp s (by omega)
        have npw : ¬ 4 ≤ clsF (fN f) (pwB (fN f) s) := by have := (num_mk hf false (pwB_val hf (show s ≤ 12 by omega)).1).1; unfold pwB; omega
        have nb4 : ¬ 4 ≤ clsF (fN f) b := by omega
        obtain ⟨mm, k1, hm⟩ : ∃ mm k1, mulR (fN f) 0 false (pwB (fN f) s) b = (mm, k1) := ⟨_, _, rfl⟩
        have hk1 := mulR_flag hf 0 false npw nb4
        have lmm := mulR_lt hf 0 false npw nb4
        have hmu := fun W h => rm_mul hu hf lps hb hk1 W h
        rw [hm] at hk1 lmm hmu
        simp only at hk1 lmm
        obtain ⟨a2, k2, ha2⟩ : ∃ a2 k2, addR (fN f) 0 false a mm = (a2, k2) := ⟨_, _, rfl⟩
        have hk2 := addR_flag (fN f) 0 false a mm
        have la2 := addR_lt hf 0 false a mm
        have had := fun W h => rm_add hu hf ha lmm W h
        rw [ha2] at hk2 la2 had
        simp only at hk2 la2
        unfold vR vE0 at hmu had
        obtain ⟨F1, o1, o2, o3⟩ := or_u8 hF (show k1 < 256 by omega)
        obtain ⟨F2, o4, o5, o6⟩ := or_u8 o2 (show k2 < 256 by omega)
        go_wp2_with (first | (go_at_call 19; (with_reducible refine (hmu _ (hG.bel hBq)).mono ?_); rintro e w8 ⟨rfl, hB8⟩; have hB8' := (hBq.trans hB8).alloc (Obj.cells #[Value.int IntKind.u64 (wd mm 1), Value.int IntKind.u64 (wd mm 0), Value.int IntKind.u8 (k1 : Int)] 36); have t10 := heap_alloc (heap_below r10 hB8) (Obj.cells #[Value.int IntKind.u64 (wd mm 1), Value.int IntKind.u64 (wd mm 0), Value.int IntKind.u8 (k1 : Int)] 36); have t4 := heap_alloc (heap_below r4 hB8) (Obj.cells #[Value.int IntKind.u64 (wd mm 1), Value.int IntKind.u64 (wd mm 0), Value.int IntKind.u8 (k1 : Int)] 36); have t16 := heap_new w8 (Obj.cells #[Value.int IntKind.u64 (wd mm 1), Value.int IntKind.u64 (wd mm 0), Value.int IntKind.u8 (k1 : Int)] 36); have s16 : B10 < w8.heap.size := heap_lt (heap_below r10 hB8); have y0 := heap_cell t10 0 rfl; have y1 := heap_cell t10 1 rfl; have z0 := heap_cell t16 0 rfl; have z1 := heap_cell t16 1 rfl) | (go_at_call 18; (with_reducible refine (had _ (hG.bel hB8')).mono ?_); rintro e w9 ⟨rfl, hB9⟩; have v10 := heap_below t10 hB9; have v4 := heap_below t4 hB9; have v16 := heap_below t16 hB9; have f0 := heap_free v10 0; have f1 := heap_free v10 1; have f2 := heap_free v10 2; have m0 := heap_cell v10 0 rfl; have m1 := heap_cell v10 1 rfl; have m2 := heap_cell v10 2 rfl; have q2 := heap_cell v16 2 rfl))
        go_roundw
        case rel => exact ⟨D + L, a2, k2, F2, by omega, (by congr 1; omega), (by first | rfl | rw [o4]), o5, by omega, la2, (((hB8'.trans hB9).set (by omega) _).set (by omega) _).set (by omega) _,
         heap_set_other (heap_set_other (heap_set_other v4 _ _ (show w.heap.size ≠ B10 by omega)) _ _ (show w.heap.size ≠ B10 by omega)) _ _ (show w.heap.size ≠ B10 by omega), heap_set (heap_set (heap_set v10 _) _) _,
         fun h0 => by
          obtain ⟨p1, p2⟩ := o6 h0
          obtain ⟨p3, p4⟩ := o3 p1
          rw [← hL]
          exact acc_step hf hc (show s ≤ 12 by omega) (hA p3) hm ha2 p4 p2⟩
        case measure => have := FP.two_pow_pos s; simp [intOf]; omega
       ·obtain ⟨P2, hP2, hPe⟩ : ∃ P2 : Nat, 2 ^ (t - (s + 1)) = P2 ∧ P = P2 * 2 := ⟨_, rfl, by rw [hP, ← Nat.pow_succ]; congr 1; omega⟩
        have hP0 : 0 < P2 := by rw [← hP2]; exact FP.two_pow_pos _
        have hP1 : P2 ≤ 1024 := by rw [← hP2]; exact Nat.pow_le_pow_right (n := 2) (by decide) (show t - (s + 1) ≤ 10 by omega)
        clear hP
        subst hPe
        have g1 : (((P2 * 2 : Nat) : Int) > 1) := by omega
        have g2 : ((P2 * 2 : Nat) : Int).tdiv 2 = (P2 : Int) := by rw [Int.natCast_mul]; exact Int.mul_tdiv_cancel _ (by decide)
        have had := fun W h => rm_add hu hf (lp s (by omega)) (lp s (by omega)) W h
        rw [pwB_two hf (show s ≤ 11 by omega)] at had
        unfold vR vE0 at had
        simp only [Int.natCast_zero] at had
        go_wp2_with (go_at_call 18; (with_reducible refine (had _ (hG.bel hBq)).mono ?_); rintro e w8 ⟨rfl, hB8⟩; have r12' := heap_below r12 hB8; have r12a := heap_alloc r12' (Obj.cells #[Value.int IntKind.u64 (wd (pwB (fN f) (s + 1)) 1), Value.int IntKind.u64 (wd (pwB (fN f) (s + 1)) 0), Value.int IntKind.u8 0] 36); have f0 := heap_free r12a 0; have f1 := heap_free r12a 1; have m0 := heap_cell r12a 0 rfl; have m1 := heap_cell r12a 1 rfl)
        go_roundw
        case rel => exact ⟨s + 1, P2, by omega, hP2.symm, (by first | rfl | (congr 1; done) | (congr 1; omega)), (((hBq.trans hB8).alloc _).set (by omega) _).set (by omega) _, heap_set_other (heap_set_other (heap_alloc (heap_below r4 hB8) _) _ _ (show w.heap.size ≠ B12 by omega)) _ _ (show w.heap.size ≠ B12 by omega), heap_set_other (heap_set_other (heap_alloc (heap_below r10 hB8) _) _ _ (show B10 ≠ B12 by omega)) _ _ (show B10 ≠ B12 by omega), heap_set (heap_set r12a _) _⟩
        case measure => simp [intOf]; omega
  ·have c1 : ¬ ((clsF (fN f) b : Nat) : Int) = 1 := by omega
   have c2 : ¬ ((clsF (fN f) b : Nat) : Int) = 2 := by omega
   have b1 : (((clsF (fN f) b : Nat) : Int) != 1) = true := bne_iff_ne.2 c1
   have b2 : (((clsF (fN f) b : Nat) : Int) != 2) = true := bne_iff_ne.2 c2
   generalize FP.sgn (fN f) b = s at *
   generalize ((clsF (fN f) b : Nat) : Int) = c at *
   go_enter Tryz.func4, Tryz.ntmps4
   go_wp2_with (first | (go_at_call 6; (with_reducible refine (h1 _ (hG.bel ((Bel.refl w).alloc _))).mono ?_); rintro e w1 ⟨rfl, hB1⟩; have hB1' := ((Bel.refl w).alloc _).trans hB1) | (go_at_call 13; (with_reducible refine (h2 _ (hG.bel hB1')).mono ?_); rintro e w2 ⟨rfl, hB2⟩; have hB2' := hB1'.trans hB2) | (go_at_call 14; (with_reducible refine (rm_goes _ (hG.bel hB2')).mono ?_); rintro e w3 ⟨rfl, hB3⟩; have hB3' := hB2'.trans hB3))
   go_ret
   exact ⟨rfl, hB3'⟩
 ·have hf4 : ¬ f < 4 := by
   intro h; apply hf; unfold fN; rw [hu]
   have := u8_rng f; rw [hu] at this; omega
  have h1 := fun W h => rm_class hu hb W h
  simp only [if_neg hf] at h1
  have h2 := fun W h => rm_known hu W h
  rw [decide_eq_false hf4] at h2
  go_enter Tryz.func4, Tryz.ntmps4
  go_wp2_with (first | (go_at_call 6; (with_reducible refine (h1 _ (hG.bel ((Bel.refl w).alloc _))).mono ?_); rintro e w1 ⟨rfl, hB1⟩; have hB1' := ((Bel.refl w).alloc _).trans hB1) | (go_at_call 13; (with_reducible refine (h2 _ (hG.bel hB1')).mono ?_); rintro e w2 ⟨rfl, hB2⟩; have hB2' := hB1'.trans hB2) | (go_at_call 14; (with_reducible refine (rm_goes _ (hG.bel hB2')).mono ?_); rintro e w3 ⟨rfl, hB3⟩; have hB3' := hB2'.trans hB3))
  go_ret
  exact ⟨rfl, hB3'⟩
end Go.Proofs.YtkfbdlidigmfbaaGreatDoor
