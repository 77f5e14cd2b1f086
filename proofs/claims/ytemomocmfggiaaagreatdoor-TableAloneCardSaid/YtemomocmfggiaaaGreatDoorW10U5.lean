import Derived.Test.YtemomocmfggiaaaGreatDoorW7aU5
import Derived.Test.YtemomocmfggiaaaGreatDoorZ1U5
namespace Go.Proofs.YtemomocmfggiaaaGreatDoor
set_option linter.unusedVariables false
set_option maxRecDepth 100000
open Go.RowKit Go.Shelf
attribute [local go_sem] Oper.semAt_some
set_option maxHeartbeats 4000000 in
theorem mod1_in (n : Nat) (hn : 1 ≤ n) {m b3 b5 b9 : Nat} (r d : Nat) (o : Bool) (w : World) (hG : Gl gG w) (hr : r < d) (hd : d < W128) (hms : m ≤ w.heap.size) (hm3 : m ≤ b3) (hm9 : m ≤ b9) (n35 : b3 ≠ b5) (n39 : b3 ≠ b9) (n59 : b5 ≠ b9)
  (h3 : w.heap[b3]? = some (.cells #[.int .u64 (wd r 1), .int .u64 (wd r 0)] 24 (0, 0))) (h5 : w.heap[b5]? = some (.cells #[.int .u64 (wd d 1), .int .u64 (wd d 0)] 24 (0, 0))) (h9 : w.heap[b9]? = some (.cells #[.bool o] 4 (0, 0))) :
  CallsIn Fence.wide n Tryz.prog 262 #[.pointer (some ⟨b3, 0, none⟩), .pointer (some ⟨b5, 0, none⟩), .pointer (some ⟨b9, 0, none⟩)] w fun e w' => (∃ v, e = .returned v) ∧ Below m w w' ∧
   w'.heap[b3]? = some (.cells #[.int .u64 (wd (nxN r 0 d).1 1), .int .u64 (wd (nxN r 0 d).1 0)] 24 (0, 0)) ∧ w'.heap[b5]? = some (.cells #[.int .u64 (wd d 1), .int .u64 (wd d 0)] 24 (0, 0)) ∧ w'.heap[b9]? = some (.cells #[.bool (nxN r 0 d).2] 4 (0, 0)) ∧ (∀ B o, B ≠ b3 → B ≠ b9 → w.heap[B]? = some o → w'.heap[B]? = some o) := by
 refine callsIn_of_wp Tryz.func262 rfl trivial ?_ rfl
 simp only [Tryz.ntmps262, List.size_toArray, List.length_cons, List.length_nil, Nat.reduceAdd, Nat.reduceSub, Array.replicate_succ, Array.replicate_zero, List.push_toArray, List.append_toArray, List.nil_append, List.cons_append]
 have e30 := heap_cell h3 0 rfl
 have e31 := heap_cell h3 1 rfl
 have e50 := heap_cell h5 0 rfl
 have e51 := heap_cell h5 1 rfl
 have hnx := next_in (n - 1) r d w hG hr hd
 have h76 : Fence.wide.fn 217 := trivial
 gi_wp2_with (gi_at_call 217; refine hnx.mono ?_; rintro e w3 ⟨rfl, hw3⟩; have g3 := heap_below h3 hw3; have g5 := heap_below h5 hw3; have g9 := heap_below h9 hw3; have k0 := heap_cell g3 0 rfl; have k1 := heap_cell g3 1 rfl; have k2 := heap_free g3 0; have k3 := heap_free g3 1; have k4 := heap_cell g9 0 rfl; have k5 := heap_free g9 0)
 go_end0
 have hb3 : m ≤ b3 := hm3
 refine ⟨⟨_, rfl⟩, Below.setCell (Below.setCell (Below.setCell (Below.mono hw3 hms) hm3 _) hm3 _) hm9 _, ?_, ?_, ?_, fun B o x3 x9 h => heap_set_other (heap_set_other (heap_set_other (heap_below h hw3) _ _ x3) _ _ x3) _ _ x9⟩
 ·exact heap_set_other (heap_set (heap_set g3 _) _) _ _ n39
 ·exact heap_set_other (heap_set_other (heap_set_other g5 _ _ (Ne.symm n35)) _ _ (Ne.symm n35)) _ _ n59
 ·exact heap_set (heap_set_other (heap_set_other g9 _ _ (Ne.symm n39)) _ _ (Ne.symm n39)) _
def mdN (r n d : Nat) : Nat × Bool := (r * 2 ^ n % d, decide (r * 2 ^ n / d % 2 = 1))
theorem mdN_zero {r d : Nat} (h : r < d) : mdN r 0 d = (r, false) := by
 unfold mdN; rw [Nat.pow_zero, Nat.mul_one, Nat.mod_eq_of_lt h, Nat.div_eq_of_lt h]; rfl
theorem mdN_lt {r n d : Nat} (h : 0 < d) : (mdN r n d).1 < d := Nat.mod_lt _ h
theorem mdN_succ {r n d : Nat} (h : 0 < d) : nxN (mdN r n d).1 0 d = mdN r (n + 1) d := by
 unfold nxN mdN
 simp only
 rw [Nat.pow_succ, ← Nat.mul_assoc]
 generalize r * 2 ^ n = x
 have e := Nat.div_add_mod x d
 have hl := Nat.mod_lt x h
 generalize x % d = y at *
 generalize x / d = q at *
 by_cases hc : d ≤ 2 * y
 ·rw [if_pos (by omega)]
  have e2 : x * 2 = (2 * y - d) + d * (2 * q + 1) := by rw [← e, Nat.mul_add, Nat.mul_comm 2 q, ← Nat.mul_assoc, Nat.mul_one]; omega
  rw [e2, Nat.add_mul_mod_self_left, Nat.add_mul_div_left _ _ h, Nat.mod_eq_of_lt (by omega), Nat.div_eq_of_lt (by omega)]
  simp only [Prod.mk.injEq]
  exact ⟨by omega, by symm; rw [decide_eq_true_iff]; omega⟩
 ·rw [if_neg (by omega)]
  have e2 : x * 2 = (2 * y) + d * (2 * q) := by rw [← e, Nat.mul_comm 2 q, ← Nat.mul_assoc]; omega
  rw [e2, Nat.add_mul_mod_self_left, Nat.add_mul_div_left _ _ h, Nat.mod_eq_of_lt (by omega), Nat.div_eq_of_lt (by omega)]
  simp only [Prod.mk.injEq]
  exact ⟨by omega, by symm; rw [decide_eq_false_iff_not]; omega⟩
theorem cmp_in (m r d : Nat) (w : World) (hG : Gl gG w) (hr : r < W128) (hd : d < W128) : CallsIn Fence.wide m Tryz.prog 159 #[vB r, vB d] w fun e w' => e = .returned (.int .i64 (nCmp r d)) ∧ Bel w w' := callsIn_wide.2 (by
 have h := calls_of_pc (e_word_Cmp [wd r 1, wd r 0, wd d 1, wd d 0] rfl).2 Tryz.func159 (by kernel_rfl) (by kernel_rfl) w hG
 simp only [] at h
 rw [s_word_Cmp, nB_small hr, nB_small hd] at h
 have hc : IntKind.i64.wrap (nCmp r d) = nCmp r d := by
  unfold nCmp
  by_cases h1 : r < d
  ·rw [if_pos h1]; decide
  ·rw [if_neg h1]
   by_cases h2 : d < r
   ·rw [if_pos h2]; decide
   ·rw [if_neg h2]; decide
 simp only [c_word_Cmp, valsS, val1, valXs, valX, Sh.kinds, List.drop_succ_cons, List.drop_zero, List.length_cons, List.length_nil, w64_u, u64_wd, resVal, hc] at h
 exact h)
set_option maxHeartbeats 4000000 in
theorem Mod_in (n : Nat) (hn : 3 ≤ n) (r d k : Nat) (hr : r < d) (hd : d < W128) (hk : k ≤ 40000) (w : World) (hG : Gl gG w) :
  CallsIn Fence.wide n Tryz.prog 228 #[vB r, .int .i64 (k : Int), vB d] w fun e w' => e = .returned (.tuple #[vB (mdN r k d).1, .bool (mdN r k d).2, .bool true]) ∧ Bel w w' := by
 have hn1 : 1 ≤ n := by omega
 have h30 : Fence.wide.fn 159 := trivial
 have h119 : Fence.wide.fn 262 := trivial
 refine callsIn_of_wp Tryz.func228 rfl trivial ?_ rfl
 simp only [Tryz.ntmps228, List.size_toArray, List.length_cons, List.length_nil, Nat.reduceAdd, Nat.reduceSub, Array.replicate_succ, Array.replicate_zero, List.push_toArray, List.append_toArray, List.nil_append, List.cons_append]
 have hcm : nCmp r d = -1 := by unfold nCmp; rw [if_pos hr]
 have q1 : ¬ ((k : Int) < 0) := by omega
 have q2 : ¬ ((k : Int) > 40000) := by omega
 have q3 : ¬ ((40000 : Int) < (k : Int)) := by omega
 gi_wp2_with (gi_at_call 159; refine (cmp_in (n - 1) r d _ (hG.bel ((((Bel.refl w).alloc _).alloc _).alloc _)) (by omega) hd).mono ?_; rintro e w1 ⟨rfl, hw1⟩; rw [hcm])
 rw [decide_eq_false (show ¬ ((k : Int) < 0) by omega), decide_eq_false (show ¬ ((40000 : Int) < (k : Int)) by omega), Bool.or_false]
 have s1 : w.heap.size + 1 + 1 < w1.heap.size := heap_lt (heap_below (heap_new2 w _ _ _) hw1)
 have B0 : Bel w (w1.alloc (Obj.cells #[Value.bool false] 4)) := ((((Bel.refl w).alloc _).alloc _).alloc _).trans hw1 |>.alloc _
 have g3 : (w1.alloc (Obj.cells #[Value.bool false] 4)).heap[w.heap.size]? = some (.cells #[.int .u64 (wd r 1), .int .u64 (wd r 0)] 24 (0, 0)) := heap_alloc (heap_below (heap_alloc (heap_alloc (heap_new w _) _) _) hw1) _
 have g5 : (w1.alloc (Obj.cells #[Value.bool false] 4)).heap[w.heap.size + 1]? = some (.cells #[.int .u64 (wd d 1), .int .u64 (wd d 0)] 24 (0, 0)) := heap_alloc (heap_below (heap_alloc (heap_new1 w _ _) _) hw1) _
 have g6 : (w1.alloc (Obj.cells #[Value.bool false] 4)).heap[w.heap.size + 1 + 1]? = some (.cells #[.int .u64 0, .int .u64 0] 24 (0, 0)) := heap_alloc (heap_below (heap_new2 w _ _ _) hw1) _
 have g9 : (w1.alloc (Obj.cells #[Value.bool false] 4)).heap[w1.heap.size]? = some (.cells #[.bool false] 4 (0, 0)) := heap_new _ _
 generalize w1.heap.size = b9 at *
 generalize w1.alloc (Obj.cells #[Value.bool false] 4) = w2 at *
 gi_loopw [26] (fun i wr => ∃ j : Nat, j ≤ k ∧ i = .int .i64 (j : Int) ∧ Below w.heap.size w wr ∧ wr.heap[w.heap.size]? = some (.cells #[.int .u64 (wd (mdN r j d).1 1), .int .u64 (wd (mdN r j d).1 0)] 24 (0, 0)) ∧
   wr.heap[w.heap.size + 1]? = some (.cells #[.int .u64 (wd d 1), .int .u64 (wd d 0)] 24 (0, 0)) ∧ wr.heap[w.heap.size + 1 + 1]? = some (.cells #[.int .u64 0, .int .u64 0] 24 (0, 0)) ∧ wr.heap[b9]? = some (.cells #[.bool (mdN r j d).2] 4 (0, 0)))
  (fun i _ => ((k : Int) - intOf i).toNat)
 case atStart => exact ⟨0, Nat.zero_le _, rfl, B0, by rw [mdN_zero hr]; exact g3, g5, g6, by rw [mdN_zero hr]; exact g9⟩
 case round =>
  obtain ⟨j, hj, rfl, hB, c3, c5, c6, c9⟩ := hrel
  by_cases hlt : j < k
  ·have q4 : (j : Int) < (k : Int) := by omega
   have hst := mod1_in (n - 1) (by omega) (m := w.heap.size) (b3 := w.heap.size) (b5 := w.heap.size + 1) (b9 := b9) (mdN r j d).1 d (mdN r j d).2 wr (hG.bel hB) (mdN_lt (by omega)) hd hB.size (Nat.le_refl _) (by omega) (by omega) (by omega) (by omega) c3 c5 c9
   rw [mdN_succ (show 0 < d by omega)] at hst
   gi_wp2_with (gi_at_call 262; refine hst.mono ?_; rintro e w4 ⟨⟨v4, rfl⟩, hw4, d3, d5, d9, dk⟩)
   go_roundw
   case rel => exact ⟨j + 1, by omega, by congr 1, Below.trans hB hw4, d3, d5, dk _ _ (by omega) (by omega) c6, d9⟩
   case measure => simp [intOf]; omega
  ·obtain rfl : j = k := by omega
   gi_wp2
   refine wpIn_region_inv (fun (L : Nat → Bool) (A : Act) (W : World) => ∃ u31 u32 u7 u8 : Value, A = ⟨#[vB r, Value.int IntKind.i64 ↑j, vB d, Value.pointer (some { block := w.heap.size, off := 0 }), undef, Value.pointer (some { block := w.heap.size + 1, off := 0 }), Value.pointer (some { block := w.heap.size + 1 + 1, off := 0 }), u7, u8, Value.pointer (some { block := b9, off := 0 }), Value.func (Fn.func 262) #[] #[Value.pointer (some { block := w.heap.size, off := 0 }), Value.pointer (some { block := w.heap.size + 1, off := 0 }), Value.pointer (some { block := b9, off := 0 })], Value.agg #[Value.int IntKind.u64 (wd r 1), Value.int IntKind.u64 (wd r 0)], Value.agg #[Value.int IntKind.u64 (wd d 1), Value.int IntKind.u64 (wd d 0)], Value.int IntKind.i64 (-1), Value.bool false, Value.bool false, Value.int IntKind.i64 ↑j, Value.bool false, Value.bool false, Value.bool false, Value.int IntKind.i64 ↑j, Value.bool false, Value.bool false, undef, Value.func (Fn.func 262) #[] #[Value.pointer (some { block := w.heap.size, off := 0 }), Value.pointer (some { block := w.heap.size + 1, off := 0 }), Value.pointer (some { block := b9, off := 0 })], Value.int IntKind.i64 ↑j, Value.int IntKind.i64 ↑j, Value.bool false, u28, u29, u30, u31, u32], []⟩ ∧ Bel w W ∧ W.heap[w.heap.size]? = some (.cells #[.int .u64 (wd (mdN r j d).1 1), .int .u64 (wd (mdN r j d).1 0)] 24 (0, 0)) ∧ W.heap[w.heap.size + 1 + 1]? = some (.cells (bif L 2 then #[.int .u64 (wd (mdN r j d).1 1), .int .u64 (wd (mdN r j d).1 0)] else #[.int .u64 0, .int .u64 0]) 24 (0, 0)) ∧ W.heap[b9]? = some (.cells #[.bool (mdN r j d).2] 4 (0, 0)) ∧ (L 0 = true → u31 = .agg #[.int .u64 (wd (mdN r j d).1 1), .int .u64 (wd (mdN r j d).1 0)]) ∧ (L 1 = true → u32 = .bool (mdN r j d).2) ∧ (L 3 = true → u7 = .bool (mdN r j d).2) ∧ (L 4 = true → u8 = (Value.bool true))) (by kernel_rfl) (by kernel_rfl) ?h0 ⟨?s0, ?s1, ?s2, ?s3, ?s4, trivial⟩ ?hd
   case h0 =>
    exact ⟨_, _, _, _, rfl, (Bel.drew hB), c3, c6, c9, fun h => absurd h Bool.false_ne_true, fun h => absurd h Bool.false_ne_true, fun h => absurd h Bool.false_ne_true, fun h => absurd h Bool.false_ne_true⟩
   case s0 =>
    rintro L _ W K ⟨u31, u32, u7, u8, rfl, hb, c3, c6, c9, f0, f1, f3, f4⟩ hL hD hN hK
    refine step_on (wanted_none rfl) ?_
    have e0 := heap_cell c3 0 rfl
    have e1 := heap_cell c3 1 rfl
    have hf := heap_free c3 0
    go_simp
    refine hK _ _ ⟨_, _, _, _, rfl, hb, c3, c6, c9, fun _ => rfl, f1, f3, f4⟩
   case s1 =>
    rintro L _ W K ⟨u31, u32, u7, u8, rfl, hb, c3, c6, c9, f0, f1, f3, f4⟩ hL hD hN hK
    refine step_on (wanted_none rfl) ?_
    have e0 := heap_cell c9 0 rfl
    have hf := heap_free c9 0
    go_simp
    refine hK _ _ ⟨_, _, _, _, rfl, hb, c3, c6, c9, f0, fun _ => rfl, f3, f4⟩
   case s2 =>
    rintro L _ W K ⟨u31, u32, u7, u8, rfl, hb, c3, c6, c9, f0, f1, f3, f4⟩ hL hD hN hK
    obtain rfl := f0 (hD 0 (by kernel_rfl))
    refine step_on (wanted_none rfl) ?_
    have hz : L 2 = false := hL
    rw [hz] at c6
    have e0 := heap_cell c6 0 (rfl)
    have h0 := heap_free c6 0
    have e1 := heap_cell c6 1 (rfl)
    have h1 := heap_free c6 1
    go_simp
    refine hK _ _ ⟨_, _, _, _, rfl, (Bel.set (Bel.set hb (by omega) _) (by omega) _), (heap_set_other (heap_set_other c3 _ _ (show w.heap.size ≠ w.heap.size + 1 + 1 by omega)) _ _ (show w.heap.size ≠ w.heap.size + 1 + 1 by omega)), (heap_set (heap_set c6 _) _), (heap_set_other (heap_set_other c9 _ _ (show b9 ≠ w.heap.size + 1 + 1 by omega)) _ _ (show b9 ≠ w.heap.size + 1 + 1 by omega)), f0, f1, f3, f4⟩
   case s3 =>
    rintro L _ W K ⟨u31, u32, u7, u8, rfl, hb, c3, c6, c9, f0, f1, f3, f4⟩ hL hD hN hK
    obtain rfl := f1 (hD 1 (by kernel_rfl))
    refine step_on (wanted_none rfl) ?_
    go_simp
    refine hK _ _ ⟨_, _, _, _, rfl, hb, c3, c6, c9, f0, f1, fun _ => rfl, f4⟩
   case s4 =>
    rintro L _ W K ⟨u31, u32, u7, u8, rfl, hb, c3, c6, c9, f0, f1, f3, f4⟩ hL hD hN hK
    refine step_on (wanted_none rfl) ?_
    go_simp
    refine hK _ _ ⟨_, _, _, _, rfl, hb, c3, c6, c9, f0, f1, f3, fun _ => rfl⟩
   case hd =>
    rintro L _ W ⟨u31, u32, u7, u8, rfl, hb, c3, c6, c9, f0, f1, f3, f4⟩ hall
    rw [hall 2 (by decide)] at c6
    obtain rfl := f0 (hall 0 (by decide))
    obtain rfl := f1 (hall 1 (by decide))
    obtain rfl := f3 (hall 3 (by decide))
    obtain rfl := f4 (hall 4 (by decide))
    have e0 := heap_cell c6 0 rfl
    have e1 := heap_cell c6 1 rfl
    gi_wp2
    refine bodyPost_ret (by simp [results, Tryz.results228, go_sem, e0, e1]; rfl) rfl ?_
    exact ⟨rfl, hb⟩
set_option maxHeartbeats 4000000 in
theorem Mod0_in (n : Nat) (hn : 3 ≤ n) (r d : Nat) (x : Int) (hr : r < W128) (hd : d < W128) (hx : d ≤ r ∨ x < 0 ∨ 40000 < x) (w : World) (hG : Gl gG w) :
  CallsIn Fence.wide n Tryz.prog 228 #[vB r, .int .i64 x, vB d] w fun e w' => e = .returned (.tuple #[vB 0, .bool false, .bool false]) ∧ Bel w w' := by
 have hn1 : 1 ≤ n := by omega
 have h30 : Fence.wide.fn 159 := trivial
 refine callsIn_of_wp Tryz.func228 rfl trivial ?_ rfl
 simp only [Tryz.ntmps228, List.size_toArray, List.length_cons, List.length_nil, Nat.reduceAdd, Nat.reduceSub, Array.replicate_succ, Array.replicate_zero, List.push_toArray, List.append_toArray, List.nil_append, List.cons_append]
 have zw : ∀ j, wd 0 j = 0 := fun j => by unfold wd; simp
 have vz : vB 0 = .agg #[.int .u64 0, .int .u64 0] := by unfold vB; rw [zw, zw]
 by_cases hrd : d ≤ r
 ·by_cases hlt : d < r
  ·have hcm : nCmp r d = 1 := by unfold nCmp; rw [if_neg (by omega), if_pos hlt]
   gi_wp2_with (gi_at_call 159; refine (cmp_in (n - 1) r d _ (hG.bel ((((Bel.refl w).alloc _).alloc _).alloc _)) (by omega) hd).mono ?_; rintro e w1 ⟨rfl, hw1⟩; rw [hcm]; have g6 := heap_below (heap_new2 w _ _ _) hw1; have k0 := heap_cell g6 0 rfl; have k1 := heap_cell g6 1 rfl; have f0 := heap_free g6 0; have f1 := heap_free g6 1; have B0 : Bel w w1 := ((((Bel.refl w).alloc _).alloc _).alloc _).trans hw1)
   have c6 := heap_set (heap_set g6 (i := 0) (.int .u64 0)) (i := 1) (.int .u64 0)
   have e0 := heap_cell c6 0 rfl
   have e1 := heap_cell c6 1 rfl
   refine bodyPost_ret (by simp [results, Tryz.results228, go_sem, e0, e1]; rfl) rfl ?_
   exact ⟨by rw [vz], Bel.set (Bel.set B0 (by omega) _) (by omega) _⟩
  ·have hcm : nCmp r d = 0 := by unfold nCmp; rw [if_neg (by omega), if_neg hlt]
   gi_wp2_with (gi_at_call 159; refine (cmp_in (n - 1) r d _ (hG.bel ((((Bel.refl w).alloc _).alloc _).alloc _)) (by omega) hd).mono ?_; rintro e w1 ⟨rfl, hw1⟩; rw [hcm]; have g6 := heap_below (heap_new2 w _ _ _) hw1; have k0 := heap_cell g6 0 rfl; have k1 := heap_cell g6 1 rfl; have f0 := heap_free g6 0; have f1 := heap_free g6 1; have B0 : Bel w w1 := ((((Bel.refl w).alloc _).alloc _).alloc _).trans hw1)
   have c6 := heap_set (heap_set g6 (i := 0) (.int .u64 0)) (i := 1) (.int .u64 0)
   have e0 := heap_cell c6 0 rfl
   have e1 := heap_cell c6 1 rfl
   refine bodyPost_ret (by simp [results, Tryz.results228, go_sem, e0, e1]; rfl) rfl ?_
   exact ⟨by rw [vz], Bel.set (Bel.set B0 (by omega) _) (by omega) _⟩
 ·have hcm : nCmp r d = -1 := by unfold nCmp; rw [if_pos (by omega)]
  by_cases hx0 : x < 0
  ·gi_wp2_with (gi_at_call 159; refine (cmp_in (n - 1) r d _ (hG.bel ((((Bel.refl w).alloc _).alloc _).alloc _)) (by omega) hd).mono ?_; rintro e w1 ⟨rfl, hw1⟩; rw [hcm]; have g6 := heap_below (heap_new2 w _ _ _) hw1; have k0 := heap_cell g6 0 rfl; have k1 := heap_cell g6 1 rfl; have f0 := heap_free g6 0; have f1 := heap_free g6 1; have B0 : Bel w w1 := ((((Bel.refl w).alloc _).alloc _).alloc _).trans hw1)
   have c6 := heap_set (heap_set g6 (i := 0) (.int .u64 0)) (i := 1) (.int .u64 0)
   have e0 := heap_cell c6 0 rfl
   have e1 := heap_cell c6 1 rfl
   refine bodyPost_ret (by simp [results, Tryz.results228, go_sem, e0, e1]; rfl) rfl ?_
   exact ⟨by rw [vz], Bel.set (Bel.set B0 (by omega) _) (by omega) _⟩
  ·have hx1 : 40000 < x := by omega
   gi_wp2_with (gi_at_call 159; refine (cmp_in (n - 1) r d _ (hG.bel ((((Bel.refl w).alloc _).alloc _).alloc _)) (by omega) hd).mono ?_; rintro e w1 ⟨rfl, hw1⟩; rw [hcm]; have g6 := heap_below (heap_new2 w _ _ _) hw1; have k0 := heap_cell g6 0 rfl; have k1 := heap_cell g6 1 rfl; have f0 := heap_free g6 0; have f1 := heap_free g6 1; have B0 : Bel w w1 := ((((Bel.refl w).alloc _).alloc _).alloc _).trans hw1)
   have c6 := heap_set (heap_set g6 (i := 0) (.int .u64 0)) (i := 1) (.int .u64 0)
   have e0 := heap_cell c6 0 rfl
   have e1 := heap_cell c6 1 rfl
   refine bodyPost_ret (by simp [results, Tryz.results228, go_sem, e0, e1]; rfl) rfl ?_
   exact ⟨by rw [vz], Bel.set (Bel.set B0 (by omega) _) (by omega) _⟩
end Go.Proofs.YtemomocmfggiaaaGreatDoor
